/- What the laws stand on, in one text: functions of the program by their contracts, and the plain mathematics behind them (18 of them). -/
import Derived.Test.YtacceeefcelkhaaWWords
import Derived.Test.YtacceeefcelkhaaProg
import Derived.Below
import Derived.Deep.Draws
import Derived.Deep.AppendLies
import Derived.Maps.AppendAt
import Derived.OwnWalk
import Derived.Laws.BytesArg
import Derived.Laws.MakeOwn
import Derived.Laws.OwnMore
import Derived.Deep.OwnRows
import Derived.Tactics
import Derived.Lib.ConvBytes
import Derived.Laws.Slices
import Derived.WalkKit
import Derived.KernelRfl
import Derived.RowKit3
import Derived.Deep.LoopGhost
import Derived.Deep.QuietTactic
import Derived.BigQuiet
import Derived.WideLaws
import Derived.Deep.DeepCutAuto
import Derived.Deep.CutBlock
import Derived.Deep.RegionHeld3
import Derived.Laws.Rows
import Derived.Lib.AppendStr
import Derived.ArgAppend
import Derived.Laws.IdiomCopy
import Derived.OrdersHeld
import Derived.Laws.BitsLemmas
import Derived.RowKit
import Derived.Test.YtacceeefcelkhaaWLast
import Derived.Test.YtacceeefcelkhaaWTab
import Derived.Test.YtacceeefcelkhaaWFour
import Derived.Test.YtacceeefcelkhaaWQPut
import Derived.Test.YtacceeefcelkhaaWApart
import Derived.Test.YtacceeefcelkhaaWArr
import Derived.Test.YtacceeefcelkhaaWZeros
import Derived.Test.YtacceeefcelkhaaWFoot
import Derived.Test.YtacceeefcelkhaaWKept
import Derived.Test.YtacceeefcelkhaaWShare
import Derived.Test.YtacceeefcelkhaaWN
import Derived.Test.YtacceeefcelkhaaWFootNe
import Derived.Test.YtacceeefcelkhaaWAt
import Derived.Test.YtacceeefcelkhaaWEqStruct
import Derived.Test.YtacceeefcelkhaaWRepsOne
import Derived.Test.YtacceeefcelkhaaWInv
import Derived.Test.YtacceeefcelkhaaWInvWords
import Derived.Test.YtacceeefcelkhaaWGuard
import Derived.Test.YtacceeefcelkhaaWNEv
import Derived.Test.YtacceeefcelkhaaWMore
import Derived.Laws.BitsAllLaws

/- Heaps as lists, in plain terms: what a swap on the way up or down leaves. -/
namespace Go.Proofs.Ytacceeefcelkhaa.DueHeap
section
variable {α : Type} (le : α → α → Prop) (d : α)
def par (i : Nat) : Nat := (i - 1) / 2
def swap (l : List α) (i k : Nat) : List α := (l.set i (l.getD k d)).set k (l.getD i d)
def Heap (n : Nat) (l : List α) : Prop := ∀ i, 0 < i → i < n → le (l.getD (par i) d) (l.getD i d)
structure UpInv (n : Nat) (l : List α) (j : Nat) : Prop where
 a : ∀ i, 0 < i → i < n → i ≠ j → le (l.getD (par i) d) (l.getD i d)
 b : 0 < j → ∀ c, 0 < c → c < n → par c = j → le (l.getD (par j) d) (l.getD c d)
structure DownInv (n : Nat) (l : List α) (i0 i : Nat) : Prop where
 a : ∀ k, 0 < k → k < n → k ≠ i → par k ≠ i → le (l.getD (par k) d) (l.getD k d)
 b : 0 < i → ∀ c, 0 < c → c < n → par c = i → le (l.getD (par i) d) (l.getD c d)
 c : i ≠ i0 → 0 < i → le (l.getD (par i) d) (l.getD i d)
 ge : i0 ≤ i
variable {le d}
theorem swap_len (l : List α) (i k : Nat) : (swap d l i k).length = l.length := by simp [swap]
theorem swap_perm {l : List α} {i k : Nat} (hi : i < l.length) (hk : k < l.length) : (swap d l i k).Perm l := by
 have : ((l.set i l[k]).set k l[i]).Perm l := List.set_set_perm hi hk
 unfold swap
 rw [List.getD_eq_getElem?_getD, List.getElem?_eq_getElem hk, List.getD_eq_getElem?_getD, List.getElem?_eq_getElem hi]
 exact this
theorem swap_get {l : List α} {i k : Nat} (hi : i < l.length) (hk : k < l.length) (m : Nat) :
  (swap d l i k).getD m d = if m = k then l.getD i d else if m = i then l.getD k d else l.getD m d := by
 simp only [swap, List.getD_eq_getElem?_getD, List.getElem?_set, List.length_set]
 by_cases h1 : k = m
 ·subst h1; simp [hk]
 ·rw [if_neg h1, if_neg (Ne.symm h1)]
  by_cases h2 : i = m
  ·subst h2; simp [hi]
  ·rw [if_neg h2, if_neg (Ne.symm h2)]
theorem par_lt {i : Nat} (h : 0 < i) : par i < i := by unfold par; omega
theorem UpInv.step (tr : ∀ a b c, le a b → le b c → le a c) {n : Nat} {l : List α} {j : Nat} (h : UpInv le d n l j) (hn : n ≤ l.length) (hj : j < n) (h0 : 0 < j) (hlt : le (l.getD j d) (l.getD (par j) d)) :
  UpInv le d n (swap d l (par j) j) (par j) := by
 have hp := par_lt h0
 have g := swap_get (d := d) (l := l) (i := par j) (k := j) (by omega) (by omega)
 refine ⟨fun i hi hin hip => ?_, fun hp0 c hc hcn hcp => ?_⟩
 ·rw [g, g]
  have hpi := par_lt hi
  by_cases e1 : i = j
  ·subst e1
   rw [if_neg (by omega), if_pos rfl, if_pos rfl]
   exact hlt
  ·rw [if_neg e1, if_neg hip]
   by_cases e2 : par i = j
   ·rw [if_pos e2]; exact h.b h0 i hi hin e2
   ·rw [if_neg e2]
    by_cases e3 : par i = par j
    ·rw [if_pos e3]
     have := h.a i hi hin e1
     rw [e3] at this
     exact tr _ _ _ hlt this
    ·rw [if_neg e3]; exact h.a i hi hin e1
 ·rw [g, g]
  have hpp := par_lt hp0
  rw [if_neg (show par (par j) ≠ j by omega), if_neg (show par (par j) ≠ par j by omega)]
  have hpj := h.a (par j) hp0 (by omega) (by omega)
  by_cases e1 : c = j
  ·rw [if_pos e1]; exact hpj
  ·rw [if_neg e1, if_neg (by have := par_lt hc; omega)]
   have := h.a c hc hcn e1
   rw [hcp] at this
   exact tr _ _ _ hpj this
theorem UpInv.done {n : Nat} {l : List α} {j : Nat} (h : UpInv le d n l j) (hj : j = 0 ∨ le (l.getD (par j) d) (l.getD j d)) : Heap le d n l := by
 intro i hi hin
 by_cases e : i = j
 ·subst e
  rcases hj with hj | hj
  ·omega
  ·exact hj
 ·exact h.a i hi hin e
theorem UpInv.of_push {l : List α} (h : Heap le d l.length l) (x : α) : UpInv le d (l.length + 1) (l ++ [x]) l.length := by
 refine ⟨fun i hi hin hne => ?_, fun h0 c hc hcn hcp => ?_⟩
 ·have hil : i < l.length := by omega
  have := par_lt hi
  have := h i hi hil
  simp only [List.getD_eq_getElem?_getD, List.getElem?_append_left hil, List.getElem?_append_left (show par i < l.length by omega)] at this ⊢
  exact this
 ·have := par_lt hc
  omega
theorem DownInv.step {n : Nat} {l : List α} {i0 i j : Nat} (h : DownInv le d n l i0 i) (hn : n ≤ l.length) (hj : j < n) (h0 : 0 < j) (hp : par j = i)
  (hmin : ∀ c, 0 < c → c < n → par c = i → le (l.getD j d) (l.getD c d)) (hlt : le (l.getD j d) (l.getD i d)) : DownInv le d n (swap d l j i) i0 j := by
 have hij : i < j := by have := par_lt h0; omega
 have g := swap_get (d := d) (l := l) (i := j) (k := i) (by omega) (by omega)
 refine ⟨fun k hk hkn hkj hpk => ?_, fun _ c hc hcn hcp => ?_, fun _ _ => ?_, by have := h.ge; omega⟩
 ·rw [g, g]
  have hpk' := par_lt hk
  rw [if_neg hpk, if_neg hkj]
  by_cases e1 : k = i
  ·subst e1
   rw [if_pos rfl, if_neg (by omega)]
   exact h.b hk j h0 hj hp
  ·rw [if_neg e1]
   by_cases e2 : par k = i
   ·rw [if_pos e2]; exact hmin k hk hkn e2
   ·rw [if_neg e2]; exact h.a k hk hkn e1 e2
 ·rw [g, g]
  have := par_lt hc
  rw [hp, if_pos rfl, if_neg (show c ≠ i by omega), if_neg (show c ≠ j by omega)]
  have := h.a c hc hcn (by omega) (by omega)
  rw [hcp] at this
  exact this
 ·rw [g, g, hp, if_pos rfl, if_neg (by omega), if_pos rfl]
  exact hlt
theorem DownInv.up {n : Nat} {l : List α} {i0 : Nat} (h : DownInv le d n l i0 i0) (hc : ∀ c, 0 < c → c < n → par c = i0 → le (l.getD i0 d) (l.getD c d)) : UpInv le d n l i0 := by
 refine ⟨fun i hi hin hne => ?_, h.b⟩
 by_cases e : par i = i0
 ·have := hc i hi hin e
  rw [e]; exact this
 ·exact h.a i hi hin hne e
theorem DownInv.done {n : Nat} {l : List α} {i0 i : Nat} (h : DownInv le d n l i0 i) (hc : ∀ c, 0 < c → c < n → par c = i → le (l.getD i d) (l.getD c d)) (hne : i ≠ i0 ∨ i = 0) : Heap le d n l := by
 intro k hk hkn
 by_cases e : par k = i
 ·rw [e]; exact hc k hk hkn e
 ·by_cases e2 : k = i
  ·subst e2
   rcases hne with hne | hne
   ·exact h.c hne hk
   ·omega
  ·exact h.a k hk hkn e2 e
/-- The one taken out is swapped with the last one. -/
theorem DownInv.of_swap (tr : ∀ a b c, le a b → le b c → le a c) {n : Nat} {l : List α} {i : Nat} (h : Heap le d l.length l) (hl : l.length = n + 1) (hi : i < n) : DownInv le d n (swap d l i n) i i := by
 have g := swap_get (d := d) (l := l) (i := i) (k := n) (by omega) (by omega)
 refine ⟨fun k hk hkn hki hpk => ?_, fun h0 c hc hcn hcp => ?_, fun hne => absurd rfl hne, Nat.le_refl _⟩
 ·rw [g, g]
  have := par_lt hk
  rw [if_neg (by omega), if_neg hpk, if_neg (by omega), if_neg hki]
  exact h k hk (by omega)
 ·rw [g, g]
  have := par_lt h0
  have := par_lt hc
  rw [if_neg (by omega), if_neg (by omega), if_neg (by omega), if_neg (by omega)]
  have h1 := h i h0 (by omega)
  have h2 := h c hc (by omega)
  rw [hcp] at h2
  exact tr _ _ _ h1 h2
theorem Heap.take {n : Nat} {l : List α} (h : Heap le d n l) : Heap le d n (l.take n) := by
 intro i hi hin
 have := par_lt hi
 simp only [List.getD_eq_getElem?_getD, List.getElem?_take, if_pos hin, if_pos (show par i < n by omega)]
 simpa [List.getD_eq_getElem?_getD] using h i hi hin
theorem take_last_perm {n : Nat} {l l' : List α} (hp : l'.Perm l) (hl : l'.length = n + 1) : (l'.getD n d :: l'.take n).Perm l := by
 refine List.Perm.trans ?_ hp
 have e : l' = l'.take n ++ [l'.getD n d] := by
  have h1 : n < l'.length := by omega
  conv => lhs; rw [← List.take_append_drop n l']
  congr 1
  rw [List.getD_eq_getElem?_getD, List.getElem?_eq_getElem h1, List.drop_eq_getElem_cons h1, List.drop_of_length_le (by omega)]
  rfl
 conv => rhs; rw [e]
 exact (List.perm_append_singleton _ _).symm
/-- The root is the least. -/
theorem Heap.root (rf : ∀ a, le a a) (tr : ∀ a b c, le a b → le b c → le a c) {l : List α} (h : Heap le d l.length l) : ∀ i, i < l.length → le (l.getD 0 d) (l.getD i d) := by
 intro i
 induction i using Nat.strongRecOn with
 |ind i ih =>
  intro hi
  by_cases e : i = 0
  ·subst e; exact rf _
  ·have := par_lt (show 0 < i by omega)
   exact tr _ _ _ (ih (par i) this (by omega)) (h i (by omega) hi)
theorem Heap.least (rf : ∀ a, le a a) (tr : ∀ a b c, le a b → le b c → le a c) {l : List α} (h : Heap le d l.length l) {x : α} (hx : x ∈ l) : le (l.getD 0 d) x := by
 obtain ⟨i, hi, rfl⟩ := List.getElem_of_mem hx
 have := h.root rf tr i hi
 rw [List.getD_eq_getElem?_getD (i := i), List.getElem?_eq_getElem hi] at this
 exact this
theorem Heap.nil : Heap le d 0 [] := fun _ _ h => absurd h (Nat.not_lt_zero _)
end
end Go.Proofs.Ytacceeefcelkhaa.DueHeap

/- Tasks as plain data, and the queue as a list in the order in which tasks were put. -/
namespace Go.Proofs.Ytacceeefcelkhaa.DueSpec
open Go.RowKit
/-- at, urgency, id, number -/
structure Tk where
 at_ : Int
 urg : Int
 id : Int
 no : Int
deriving DecidableEq
def t0 : Tk := ⟨0, 0, 0, 0⟩
def earlyT (a b : Tk) : Bool := if a.at_ ≠ b.at_ then decide (a.at_ < b.at_) else decide (a.no < b.no)
def urgentT (a b : Tk) : Bool := if a.urg ≠ b.urg then decide (b.urg < a.urg) else earlyT a b
/-- not later than -/
def leE (a b : Tk) : Prop := earlyT b a = false
def leU (a b : Tk) : Prop := urgentT b a = false
theorem early_iff (a b : Tk) : earlyT a b = true ↔ a.at_ < b.at_ ∨ (a.at_ = b.at_ ∧ a.no < b.no) := by
 unfold earlyT; split <;> simp only [decide_eq_true_eq] <;> omega
theorem early_not (a b : Tk) : earlyT a b = false ↔ ¬ (a.at_ < b.at_ ∨ (a.at_ = b.at_ ∧ a.no < b.no)) := by
 rw [← early_iff]; simp
theorem urgent_iff (a b : Tk) : urgentT a b = true ↔ b.urg < a.urg ∨ (a.urg = b.urg ∧ (a.at_ < b.at_ ∨ (a.at_ = b.at_ ∧ a.no < b.no))) := by
 unfold urgentT; split
 ·simp only [decide_eq_true_eq]; omega
 ·rw [early_iff]; omega
theorem urgent_not (a b : Tk) : urgentT a b = false ↔ ¬ (b.urg < a.urg ∨ (a.urg = b.urg ∧ (a.at_ < b.at_ ∨ (a.at_ = b.at_ ∧ a.no < b.no)))) := by
 rw [← urgent_iff]; simp
theorem leE_rf (a : Tk) : leE a a := by unfold leE; rw [early_not]; omega
theorem leE_tr (a b c : Tk) (h : leE a b) (k : leE b c) : leE a c := by unfold leE at *; rw [early_not] at *; omega
theorem leE_of {a b : Tk} (h : earlyT a b = true) : leE a b := by unfold leE; rw [early_iff] at h; rw [early_not]; omega
theorem leU_rf (a : Tk) : leU a a := by unfold leU; rw [urgent_not]; omega
theorem leU_tr (a b c : Tk) (h : leU a b) (k : leU b c) : leU a c := by unfold leU at *; rw [urgent_not] at *; omega
theorem leU_of {a b : Tk} (h : urgentT a b = true) : leU a b := by unfold leU; rw [urgent_iff] at h; rw [urgent_not]; omega
end Go.Proofs.Ytacceeefcelkhaa.DueSpec

namespace Go.Proofs.Ytacceeefcelkhaa.Al
open Go.RowKit Go.Proofs.YtacceeefcelkhaaW.PrintWords Go.Proofs.YtacceeefcelkhaaW.PrintLast Go.Proofs.YtacceeefcelkhaaW.PrintMore
attribute [local go_sem] max2_int min2_int max_two min_two max_three min_three max_four min_four   -- for this text's walks alone
set_option linter.unusedVariables false
set_option linter.unusedSimpArgs false



def errW : Option Int → Value
 |none => .nilIface
 |some c => .iface 0 (.int .i64 c)
theorem errW_none : errW none = .nilIface := rfl
theorem errW_some (c : Int) : errW (some c) = .iface 0 (.int .i64 c) := rfl

theorem info65 : (Try.prog.info? 65).map (fun i => (i.zero, i.size, i.bytes)) = some (some (.agg #[(.int .i64 0), (.int .i64 0), (.int .i64 0), (.int .i64 0)]), 4, 32) := by kernel_rfl
-- the values' own types
/-! #### struct type 65 -/
structure S65 where
 f0 : Int
 f1 : Int
 f2 : Int
 f3 : Int
def z65 : S65 := ⟨(0 : Int), (0 : Int), (0 : Int), (0 : Int)⟩
def k65 : Kd S65 := Kd.iso (Kd.pair (Kd.int .i64) (Kd.pair (Kd.int .i64) (Kd.pair (Kd.int .i64) (Kd.int .i64)))) (fun x : S65 => (x.f0, x.f1, x.f2, x.f3))
theorem k65_open {w : World} {x : S65} {cs : List Value} (h : k65.K w x cs) : cs = [.int .i64 x.f0, .int .i64 x.f1, .int .i64 x.f2, .int .i64 x.f3] := by
 obtain ⟨_, _, rfl, rfl, ⟨_, _, rfl, rfl, ⟨_, _, rfl, rfl, rfl⟩⟩⟩ := h
 exact rfl
theorem k65_openM {w : World} {base : Nat} {ok : Nat → Prop} {x : S65} {cs : List Value} (h : k65.M w base ok x cs) : cs = [.int .i64 x.f0, .int .i64 x.f1, .int .i64 x.f2, .int .i64 x.f3] := by
 obtain ⟨_, _, rfl, rfl, ⟨_, _, rfl, rfl, ⟨_, _, rfl, rfl, rfl⟩⟩⟩ := h
 exact rfl
theorem k65_mk (w : World) (x : S65)  : k65.K w x [.int .i64 x.f0, .int .i64 x.f1, .int .i64 x.f2, .int .i64 x.f3] := ⟨[.int .i64 x.f0], [.int .i64 x.f1, .int .i64 x.f2, .int .i64 x.f3], rfl, rfl, ⟨[.int .i64 x.f1], [.int .i64 x.f2, .int .i64 x.f3], rfl, rfl, ⟨[.int .i64 x.f2], [.int .i64 x.f3], rfl, rfl, rfl⟩⟩⟩
theorem k65_mkM (w : World) (base : Nat) (ok : Nat → Prop) (x : S65)  : k65.M w base ok x [.int .i64 x.f0, .int .i64 x.f1, .int .i64 x.f2, .int .i64 x.f3] := ⟨[.int .i64 x.f0], [.int .i64 x.f1, .int .i64 x.f2, .int .i64 x.f3], rfl, rfl, ⟨[.int .i64 x.f1], [.int .i64 x.f2, .int .i64 x.f3], rfl, rfl, ⟨[.int .i64 x.f2], [.int .i64 x.f3], rfl, rfl, rfl⟩⟩⟩
def rd_T65 (xs : List S65) (i : Int) : S65 := xs.getD i.toNat z65
theorem at_T65 {w : World} {A : Option Addr} {n : Nat} {xs : List S65} (h : Kd.C k65 w A n xs) (i : Int) (h0 : 0 ≤ i) (h1 : i < n) : ∃ ad , A = some ad ∧ w.cell? (ad.add (i.toNat * 4)) = some (.int .i64 (rd_T65 xs i).f0) ∧ w.cell? ⟨(ad.add (i.toNat * 4)).block, (ad.add (i.toNat * 4)).off + 1, none⟩ = some (.int .i64 (rd_T65 xs i).f1) ∧ w.cell? ⟨(ad.add (i.toNat * 4)).block, (ad.add (i.toNat * 4)).off + 2, none⟩ = some (.int .i64 (rd_T65 xs i).f2) ∧ w.cell? ⟨(ad.add (i.toNat * 4)).block, (ad.add (i.toNat * 4)).off + 3, none⟩ = some (.int .i64 (rd_T65 xs i).f3) := by
 obtain ⟨ad, c, e, _, hK, hc0⟩ := Kd.C_get h z65 i h0 h1
 have hc : ∀ j u, c[j]? = some u → w.cell? (ad.add (i.toNat * 4 + j)) = some u := hc0
 obtain rfl := k65_open hK
 exact ⟨ad, e, hc 0 _ rfl, by rw [← add_field _ _ 1 (by omega)]; exact hc 1 _ rfl, by rw [← add_field _ _ 2 (by omega)]; exact hc 2 _ rfl, by rw [← add_field _ _ 3 (by omega)]; exact hc 3 _ rfl⟩

theorem bne_nil_ (l : List UInt8) : (l != []) = !l.isEmpty := by cases l <;> rfl
end Go.Proofs.Ytacceeefcelkhaa.Al

/- A row of tasks (four numbers each), and a heap's object. -/
namespace Go.Proofs.Ytacceeefcelkhaa.DueSpec
open Go.RowKit Go.Proofs.Ytacceeefcelkhaa.DueHeap Go.Proofs.YtacceeefcelkhaaW.PrintWords Go.Proofs.YtacceeefcelkhaaW.PrintLast Go.Proofs.YtacceeefcelkhaaW.PrintMore
set_option linter.unusedVariables false
set_option linter.unusedSimpArgs false
def kT : Kd Tk := Kd.iso (Kd.pair (Kd.int .i64) (Kd.pair (Kd.int .i64) (Kd.pair (Kd.int .i64) (Kd.int .i64)))) (fun x : Tk => (x.at_, x.urg, x.id, x.no))
def cs4 (x : Tk) : List Value := [.int .i64 x.at_, .int .i64 x.urg, .int .i64 x.id, .int .i64 x.no]
abbrev a4 (x : Tk) : Value := .agg #[.int .i64 x.at_, .int .i64 x.urg, .int .i64 x.id, .int .i64 x.no]
theorem T4_M (w : World) (base : Nat) (ok : Nat → Prop) (x : Tk) : kT.M w base ok x (cs4 x) := ⟨[.int .i64 x.at_], [.int .i64 x.urg, .int .i64 x.id, .int .i64 x.no], rfl, rfl, [.int .i64 x.urg], [.int .i64 x.id, .int .i64 x.no], rfl, rfl, [.int .i64 x.id], [.int .i64 x.no], rfl, rfl, rfl⟩
theorem T4_Mi {w : World} {base : Nat} {ok : Nat → Prop} {x : Tk} {c : List Value} (h : kT.M w base ok x c) : c = cs4 x := by
 obtain ⟨c0, c1, rfl, rfl, c2, c3, rfl, rfl, c4, c5, rfl, rfl, rfl⟩ := h
 rfl
theorem T4_Ki {w : World} {x : Tk} {c : List Value} (h : kT.K w x c) : c = cs4 x := by
 obtain ⟨c0, c1, rfl, rfl, c2, c3, rfl, rfl, c4, c5, rfl, rfl, rfl⟩ := h
 rfl
def LT (fn : Nat) (a b : Tk) : Bool := if fn = 23 then earlyT a b else urgentT a b
def LE (fn : Nat) (a b : Tk) : Prop := LT fn b a = false
theorem LE_rf (fn : Nat) (a : Tk) : LE fn a a := by unfold LE LT; split; exact leE_rf a; exact leU_rf a
theorem LE_tr (fn : Nat) (a b c : Tk) (h : LE fn a b) (k : LE fn b c) : LE fn a c := by
 unfold LE LT at *
 split at h
 ·rename_i e; subst e; rw [if_pos rfl] at k ⊢; exact leE_tr a b c h k
 ·rename_i e; rw [if_neg e] at k ⊢; exact leU_tr a b c h k
theorem LE_of (fn : Nat) {a b : Tk} (h : LT fn a b = true) : LE fn a b := by
 unfold LE LT at *
 split at h
 ·rename_i e; subst e; rw [if_pos rfl]; exact leE_of h
 ·rename_i e; rw [if_neg e]; exact leU_of h
section
variable {e : Nat} {W w : World} {base : Nat} {ok : Nat → Prop} {g n c : Nat} {l : List Tk}
theorem T4_cell (h : kT.R e w base ok (.slice (some ⟨g, 0, none⟩) n c) l) (i : Nat) (hi : i < n) :
  w.cell? ⟨g, i * 4, none⟩ = some (.int .i64 (l.getD i t0).at_) ∧ w.cell? ⟨g, i * 4 + 1, none⟩ = some (.int .i64 (l.getD i t0).urg) ∧ w.cell? ⟨g, i * 4 + 2, none⟩ = some (.int .i64 (l.getD i t0).id) ∧ w.cell? ⟨g, i * 4 + 3, none⟩ = some (.int .i64 (l.getD i t0).no) ∧ ∀ j, w.frozen? ⟨g, i * 4 + j, none⟩ = false := by
 obtain ⟨c, _, hM, hc, hf⟩ := Kd.R_elem h t0 (i : Int) (by omega) (by omega)
 rw [Int.toNat_natCast] at hM hc hf
 obtain rfl := T4_Mi hM
 exact ⟨hc 0 _ rfl, hc 1 _ rfl, hc 2 _ rfl, hc 3 _ rfl, hf⟩
theorem T4_put (h : kT.R e w base ok (.slice (some ⟨g, 0, none⟩) n c) l) (i : Nat) (hi : i < n) (x : Tk) :
  kT.R e (w.setCells g (i * 4) (cs4 x)) base ok (.slice (some ⟨g, 0, none⟩) n c) (l.set i x) ∧ w.grownBy (w.setCells g (i * 4) (cs4 x)) (some g) := by
 obtain ⟨c', hcl, hM, hc, hf⟩ := Kd.R_elem h t0 (i : Int) (by omega) (by omega)
 rw [Int.toNat_natCast] at hM hc hf
 obtain rfl := T4_Mi hM
 have := Kd.R_seg (okp := fun _ => False) h (i : Int) (by omega) (by omega) (c := cs4 (l.getD i t0)) (seg := cs4 x) (j := 0) (x' := x) rfl (by simpa using hc) (show 0 + 4 ≤ 4 from Nat.le_refl _) (by exact T4_M _ _ _ _) (fun _ hk => hk.elim)
 rw [Int.toNat_natCast] at this
 exact this
end
theorem T4_read {w : World} {A : Option Addr} {n : Nat} {l : List Tk} (h : kT.C w A n l) (i : Nat) (hi : i < n) :
  ∃ ad, A = some ad ∧ w.cell? (ad.add (i * 4)) = some (.int .i64 (l.getD i t0).at_) ∧ w.cell? (ad.add (i * 4 + 1)) = some (.int .i64 (l.getD i t0).urg) ∧ w.cell? (ad.add (i * 4 + 2)) = some (.int .i64 (l.getD i t0).id) ∧ w.cell? (ad.add (i * 4 + 3)) = some (.int .i64 (l.getD i t0).no) := by
 obtain ⟨ad, c, rfl, _, hK, hc⟩ := Kd.C_get h t0 (i : Int) (by omega) (by omega)
 rw [Int.toNat_natCast] at hK hc
 obtain rfl := T4_Ki hK
 exact ⟨ad, rfl, hc 0 _ rfl, hc 1 _ rfl, hc 2 _ rfl, hc 3 _ rfl⟩
/-- A heap's object at block g: its order's function, its row v of the tasks l, in a world w behind W. -/
structure HT (W w : World) (g fn : Nat) (v : Value) (l : List Tk) : Prop where
 blk : w.heap[g]? = some (.cells #[v, .func (.func fn) #[] #[]] 54 (0, 0))
 ge : W.heap.size ≤ g
 row : kT.R 61 w W.heap.size (fun _ => True) v l
 bel : Below W.heap.size W w
/-- What a call on one heap leaves of all else. -/
structure Step (w w1 : World) (g : Nat) (v v1 : Value) : Prop where
 keep : KeepBut w w1 g v.ownBlock
 own : v1.ownBlock = v.ownBlock ∨ ∃ b, v1.ownBlock = some b ∧ w.heap.size ≤ b
section
variable {W w w1 w2 : World} {g g' fn fn' : Nat} {v v1 v2 v' : Value} {l l' : List Tk}
theorem HT.below (h : HT W w g fn v l) (hb : Below w.heap.size w w1) : HT W w1 g fn v l := ⟨blk_below h.blk hb, h.ge, Kd.R_below h.row hb, below_step h.bel hb⟩
theorem HT.drew (h : HT W w g fn v l) : HT W w.drew g fn v l := h.below (below_drew (Below.refl _ _))
theorem Step.refl (w : World) (g : Nat) (v : Value) : Step w w g v v := ⟨KeepBut.refl _ _ _, .inl rfl⟩
theorem Step.of_below (hb : Below w.heap.size w w1) (g : Nat) (v : Value) : Step w w1 g v v := ⟨KeepBut.of_below hb _ _, .inl rfl⟩
theorem Step.trans (h : Step w w1 g v v1) (k : Step w1 w2 g v1 v2) : Step w w2 g v v2 := by
 have hs := h.keep.1
 refine ⟨h.keep.trans k.keep ?_, ?_⟩
 ·rcases h.own with e | ⟨b, e, hb⟩
  ·exact .inl e
  ·exact .inr ⟨b, e, hb⟩
 ·rcases k.own with e | ⟨b, e, hb⟩
  ·rw [e]; exact h.own
  ·exact .inr ⟨b, e, by omega⟩
/-- Rows in blocks of their own. -/
def Ap (v v' : Value) : Prop := ∀ q, v.ownBlock = some q → v'.ownBlock ≠ some q
theorem Ap.symm (h : Ap v v') : Ap v' v := fun q e e' => h q e' e
theorem HT.lt (h : HT W w g fn v l) {q : Nat} (e : v.ownBlock = some q) : q < w.heap.size := by
 obtain ⟨inner, ho⟩ := Kd.R_own h.row
 exact own_lt ho q e
theorem Ap.step (h : HT W w g fn v l) (ha : Ap v v') (hs : Step w w1 g' v' v1) : Ap v v1 := fun q e => by
 rcases hs.own with k | ⟨b, k, hb⟩
 ·rw [k]; exact ha q e
 ·rw [k]
  intro he
  injection he with he
  have := h.lt e
  omega
/-- The other heap's call. -/
theorem HT.other (h : HT W w g fn v l) (k : HT W w g' fn' v' l') (hs : Step w w1 g' v' v1) (hne : g ≠ g') (hap : Ap v v') (hb : Below W.heap.size W w1) : HT W w1 g fn v l := by
 refine ⟨(hs.keep.2 g (blk_lt h.blk) hne (Kd.R_ne k.row h.blk (by decide))).trans h.blk, h.ge, ?_, hb⟩
 refine Kd.R_mono (Kd.R_move (Kd.R_bound (Kd.R_tight rfl h.row)) (fun j hj => hs.keep.2 j hj.2.2.1 ?_ ?_)) (fun _ _ => trivial)
 ·rintro rfl
  exact Kd.R_ne h.row k.blk (by decide) hj.1
 ·exact fun e => hap j hj.1.symm e.symm
end
end Go.Proofs.Ytacceeefcelkhaa.DueSpec

/- The heap's methods: Len, Less, Swap, Push, Pop; and the two orders. -/
namespace Go.Proofs.Ytacceeefcelkhaa.Al
open Go.RowKit Go.Proofs.Ytacceeefcelkhaa.DueHeap Go.Proofs.Ytacceeefcelkhaa.DueSpec Go.Proofs.YtacceeefcelkhaaW.PrintWords Go.Proofs.YtacceeefcelkhaaW.PrintLast Go.Proofs.YtacceeefcelkhaaW.PrintMore
set_option linter.unusedVariables false
set_option linter.unusedSimpArgs false
section
variable {P : Program} {ops : Array Oper} {Q : Exit → Act → World → Prop}
/-- A call of a function value, in a region that draws its order. -/
theorem goesC_ {oi : Oper} {N : Option Tmp} {a : Act} {w : World} {K : Act → World → Prop} {f : FuncId} {fn : Func} {as_ : Array Operand} {ts : Array TypeId} (cl : Operand) (fr : Array Value) (hf : P.funcs[f]? = some fn) (hname : (fn.name == "runtime.NumGoroutine") = false) (hb : fn.body.isSome = true) (args0 args : Array Value)
  (hw : Region.wanted oi (yielded ops a.tmps) = true) (hN : oi.dst = N) (hop : oi.op = .call { callee := .value cl, args := as_, argTypes := ts }) (hcl : a.eval cl = .func (.func f) #[] fr) (hargs : as_.map a.eval = args0) (happ : args0 ++ fr = args)
  (h : Calls P f args w fun e w' => ∃ v, e = .returned v ∧ K (a.put N v) w') : if Region.wanted oi (yielded ops a.tmps) = true then Oper.wp P oi a w K Q else K (a.put N undef) w := by
 refine call_ f args hw hN ?_ h
 have he := enters_ hf hname hb args w
 unfold execOp
 subst happ
 simp [hop, resolve, Deferred.ofValue, invoke, hcl, hargs, he]
end
theorem early_calls (a b : Tk) (w : World) : Calls Try.prog 23 #[a4 a, a4 b] w fun e w' => e = .returned (.bool (earlyT a b)) ∧ Below w.heap.size w w' := by
 obtain ⟨a1, a2, a3, a4'⟩ := a
 obtain ⟨b1, b2, b3, b4⟩ := b
 unfold a4 earlyT
 simp only
 by_cases h : a1 = b1
 ·have f1 : (a1 != b1) = false := by simp [h]
  rw [if_neg (by simp [h])]
  have HF := Aside0.mk h
  clear h
  go_enter Try.func23, Try.ntmps23
  go_wp2_with (first | ((with_reducible refine gate_dst (N := 2) rfl ?_); refine box_event ?hg (N := 2) ?hd (cs := #[.int .i64 a1, .int .i64 a2, .int .i64 a3, .int .i64 a4']) (t := 61) ?hr ?_; (case hd => rfl); (case hg => rfl); (case hr => first | (go_simp; done) | (go_simp; rfl)); intro g2 hg w1 hbox hb; have HX1 := Aside0.mk hbox; have HB1 := Aside0.mk hb; clear hg hbox hb) | ((with_reducible refine gate_dst (N := 3) rfl ?_); refine box_event ?hg3 (N := 3) ?hd3 (cs := #[.int .i64 b1, .int .i64 b2, .int .i64 b3, .int .i64 b4]) (t := 61) ?hr3 ?_; (case hd3 => rfl); (case hg3 => rfl); (case hr3 => first | (go_simp; done) | (go_simp; rfl)); intro g3 hg w2 hbox hb; have HB2 := Aside0.mk (below_step HB1.out hb); have HX2 := blk_below HX1.out hb; have p0 : w2.cell? ⟨g2, 0, none⟩ = some (.int .i64 a1) := (blk_cell HX2 0).trans rfl; have p3 : w2.cell? ⟨g2, 3, none⟩ = some (.int .i64 a4') := (blk_cell HX2 3).trans rfl; have q0 : w2.cell? ⟨g3, 0, none⟩ = some (.int .i64 b1) := (blk_cell hbox 0).trans rfl; have q3 : w2.cell? ⟨g3, 3, none⟩ = some (.int .i64 b4) := (blk_cell hbox 3).trans rfl; clear HX2 hg hbox hb))
  go_ret
  exact ⟨rfl, HB2.out⟩
 ·have f1 : (a1 != b1) = true := bne_iff_ne.2 h
  rw [if_pos h]
  clear h
  go_enter Try.func23, Try.ntmps23
  go_wp2_with (first | ((with_reducible refine gate_dst (N := 2) rfl ?_); refine box_event ?hg (N := 2) ?hd (cs := #[.int .i64 a1, .int .i64 a2, .int .i64 a3, .int .i64 a4']) (t := 61) ?hr ?_; (case hd => rfl); (case hg => rfl); (case hr => first | (go_simp; done) | (go_simp; rfl)); intro g2 hg w1 hbox hb; have HX1 := Aside0.mk hbox; have HB1 := Aside0.mk hb; clear hg hbox hb) | ((with_reducible refine gate_dst (N := 3) rfl ?_); refine box_event ?hg3 (N := 3) ?hd3 (cs := #[.int .i64 b1, .int .i64 b2, .int .i64 b3, .int .i64 b4]) (t := 61) ?hr3 ?_; (case hd3 => rfl); (case hg3 => rfl); (case hr3 => first | (go_simp; done) | (go_simp; rfl)); intro g3 hg w2 hbox hb; have HB2 := Aside0.mk (below_step HB1.out hb); have HX2 := blk_below HX1.out hb; have p0 : w2.cell? ⟨g2, 0, none⟩ = some (.int .i64 a1) := (blk_cell HX2 0).trans rfl; have q0 : w2.cell? ⟨g3, 0, none⟩ = some (.int .i64 b1) := (blk_cell hbox 0).trans rfl; clear HX2 hg hbox hb))
  go_ret
  exact ⟨rfl, HB2.out⟩
theorem urgent_calls (a b : Tk) (w : World) : Calls Try.prog 24 #[a4 a, a4 b] w fun e w' => e = .returned (.bool (urgentT a b)) ∧ Below w.heap.size w w' := by
 by_cases h : a.urg = b.urg
 ·have f1 : (a.urg != b.urg) = false := by simp [h]
  have HF := Aside0.mk h
  have HR : Aside0 (urgentT a b = earlyT a b) := ⟨by unfold urgentT; rw [if_neg (by simp [h])]⟩
  rw [HR.out]
  clear h
  go_enter Try.func24, Try.ntmps24
  go_wp2_with (first | ((with_reducible refine gate_dst (N := 2) rfl ?_); refine box_event ?hg (N := 2) ?hd (cs := #[.int .i64 a.at_, .int .i64 a.urg, .int .i64 a.id, .int .i64 a.no]) (t := 61) ?hr ?_; (case hd => rfl); (case hg => rfl); (case hr => first | (go_simp; done) | (go_simp; rfl)); intro g2 hg w1 hbox hb; have HX1 := Aside0.mk hbox; have HB1 := Aside0.mk hb; clear hg hbox hb) | ((with_reducible refine gate_dst (N := 3) rfl ?_); refine box_event ?hg3 (N := 3) ?hd3 (cs := #[.int .i64 b.at_, .int .i64 b.urg, .int .i64 b.id, .int .i64 b.no]) (t := 61) ?hr3 ?_; (case hd3 => rfl); (case hg3 => rfl); (case hr3 => first | (go_simp; done) | (go_simp; rfl)); intro g3 hg w2 hbox hb; have HB2 := Aside0.mk (below_step HB1.out hb); have HX2 := blk_below HX1.out hb; have p0 : w2.cell? ⟨g2, 0, none⟩ = some (.int .i64 a.at_) := (blk_cell HX2 0).trans rfl; have p1 : w2.cell? ⟨g2, 1, none⟩ = some (.int .i64 a.urg) := (blk_cell HX2 1).trans rfl; have p2 : w2.cell? ⟨g2, 2, none⟩ = some (.int .i64 a.id) := (blk_cell HX2 2).trans rfl; have p3 : w2.cell? ⟨g2, 3, none⟩ = some (.int .i64 a.no) := (blk_cell HX2 3).trans rfl; have q0 : w2.cell? ⟨g3, 0, none⟩ = some (.int .i64 b.at_) := (blk_cell hbox 0).trans rfl; have q1 : w2.cell? ⟨g3, 1, none⟩ = some (.int .i64 b.urg) := (blk_cell hbox 1).trans rfl; have q2 : w2.cell? ⟨g3, 2, none⟩ = some (.int .i64 b.id) := (blk_cell hbox 2).trans rfl; have q3 : w2.cell? ⟨g3, 3, none⟩ = some (.int .i64 b.no) := (blk_cell hbox 3).trans rfl; clear HX2 hg hbox hb) | (go_at_call 23; refine (early_calls a b _).mono ?_; rintro e w3 ⟨rfl, hb⟩; have HB3 := Aside0.mk (below_step HB2.out hb); clear hb))
  go_ret
  exact ⟨rfl, HB3.out⟩
 ·have f1 : (a.urg != b.urg) = true := bne_iff_ne.2 h
  have HR : Aside0 (urgentT a b = decide (b.urg < a.urg)) := ⟨by unfold urgentT; rw [if_pos h]⟩
  rw [HR.out]
  clear h
  go_enter Try.func24, Try.ntmps24
  go_wp2_with (first | ((with_reducible refine gate_dst (N := 2) rfl ?_); refine box_event ?hg (N := 2) ?hd (cs := #[.int .i64 a.at_, .int .i64 a.urg, .int .i64 a.id, .int .i64 a.no]) (t := 61) ?hr ?_; (case hd => rfl); (case hg => rfl); (case hr => first | (go_simp; done) | (go_simp; rfl)); intro g2 hg w1 hbox hb; have HX1 := Aside0.mk hbox; have HB1 := Aside0.mk hb; clear hg hbox hb) | ((with_reducible refine gate_dst (N := 3) rfl ?_); refine box_event ?hg3 (N := 3) ?hd3 (cs := #[.int .i64 b.at_, .int .i64 b.urg, .int .i64 b.id, .int .i64 b.no]) (t := 61) ?hr3 ?_; (case hd3 => rfl); (case hg3 => rfl); (case hr3 => first | (go_simp; done) | (go_simp; rfl)); intro g3 hg w2 hbox hb; have HB2 := Aside0.mk (below_step HB1.out hb); have HX2 := blk_below HX1.out hb; have p1 : w2.cell? ⟨g2, 1, none⟩ = some (.int .i64 a.urg) := (blk_cell HX2 1).trans rfl; have q1 : w2.cell? ⟨g3, 1, none⟩ = some (.int .i64 b.urg) := (blk_cell hbox 1).trans rfl; clear HX2 hg hbox hb))
  go_ret
  exact ⟨rfl, HB2.out⟩
theorem hlen_calls (W w : World) (g fn : Nat) (v : Value) (l : List Tk) (h : HT W w g fn v l) : Calls Try.prog 27 #[.pointer (some ⟨g, 0, none⟩)] w fun e w' => e = .returned (.int .i64 l.length) ∧ Below w.heap.size w w' := by
 obtain ⟨A, c, rfl⟩ := Kd.R_slice h.row
 have f0 : w.cell? ⟨g, 0, none⟩ = some (.slice A l.length c) := (blk_cell h.blk 0).trans rfl
 clear h
 go_enter Try.func27, Try.ntmps27
 go_wp2
 go_ret
 exact ⟨rfl, Below.refl _ _⟩
/-- The row's form, and its cells at a place. -/
theorem ht_form {W w : World} {g fn : Nat} {v : Value} {l : List Tk} (h : HT W w g fn v l) (hp : 0 < l.length) : ∃ ga c, v = .slice (some ⟨ga, 0, none⟩) l.length c := by
 obtain ⟨ga, c, e, _⟩ := Kd.R_form h.row hp
 exact ⟨ga, c, e⟩
def rg51_1_T : Bool × List (List Nat × List Nat) := (true, [([], []), ([0], [0]), ([1], [1]), ([2], [2]), ([], []), ([4], [4]), ([5], [5]), ([6], [6]), ([], []), ([7, 8], [7, 8]), ([9], [9]), ([], []), ([11], [11]), ([12], [12]), ([13], [13]), ([], []), ([14, 15], [14, 15]), ([16], [16]), ([3, 10, 17], [3, 10, 17]), ([18, 18, 0, 1, 2, 3, 4, 5, 6, 7, 8, 9, 10, 11, 12, 13, 14, 15, 16, 17, 18], [18])])
def rg51_1_B : List Nat := [0, 1, 3, 7, 0, 16, 48, 112, 0, 496, 1008, 0, 2048, 6144, 14336, 0, 63488, 129024, 262143, 524287]
theorem rg51_1_tab : rtab .any (opsOf Try.f51 1) = rg51_1_T := by kernel_rfl
theorem rg51_1_bits : waitsOk rg51_1_T.2 rg51_1_B = true := by kernel_rfl
set_option maxHeartbeats 8000000 in
set_option maxRecDepth 100000 in
theorem less_calls23 (W w : World) (g : Nat) (v : Value) (l : List Tk) (h : HT W w g 23 v l) (i k : Nat) (hi : i < l.length) (hk : k < l.length) : Calls Try.prog 51 #[.pointer (some ⟨g, 0, none⟩), .int .i64 i, .int .i64 k] w fun e w' => e = .returned (.bool (LT 23 (l.getD i t0) (l.getD k t0))) ∧ Below w.heap.size w w' := by
 have hu61 := Try.underlying61
 obtain ⟨ga, c, rfl⟩ := ht_form h (by omega)
 obtain ⟨n, hn⟩ : ∃ n, n = l.length := ⟨_, rfl⟩
 rw [← hn] at h hi hk
 have b1 : decide ((i : Int) < (n : Int)) = true := decide_eq_true (by omega)
 have b2 : decide (i < n) = true := decide_eq_true hi
 have b3 : decide ((k : Int) < (n : Int)) = true := decide_eq_true (by omega)
 have b4 : decide (k < n) = true := decide_eq_true hk
 have hd := h.drew
 have hbk := hd.blk
 obtain ⟨c0, c1, c2, c3, _⟩ := T4_cell hd.row i hi
 obtain ⟨d0, d1, d2, d3, _⟩ := T4_cell hd.row k hk
 obtain ⟨x, hx⟩ : ∃ x, x = l.getD i t0 := ⟨_, rfl⟩
 obtain ⟨y, hy⟩ : ∃ y, y = l.getD k t0 := ⟨_, rfl⟩
 rw [← hx] at c0 c1 c2 c3 ⊢
 rw [← hy] at d0 d1 d2 d3 ⊢
 clear h hn hd hx hy
 go_enter Try.func51, Try.ntmps51
 go_upto_region 1 with (fail)
 refine start_ (n := 20) (S := fun w' => w'.heap[g]? = some (.cells #[.slice (some ⟨ga, 0, none⟩) n c, .func (.func 23) #[] #[]] 54 (0, 0)) ∧ w'.cell? ⟨ga, i * 4, none⟩ = some (.int .i64 x.at_) ∧ w'.cell? ⟨ga, i * 4 + 1, none⟩ = some (.int .i64 x.urg) ∧ w'.cell? ⟨ga, i * 4 + 2, none⟩ = some (.int .i64 x.id) ∧ w'.cell? ⟨ga, i * 4 + 3, none⟩ = some (.int .i64 x.no) ∧ w'.cell? ⟨ga, k * 4, none⟩ = some (.int .i64 y.at_) ∧ w'.cell? ⟨ga, k * 4 + 1, none⟩ = some (.int .i64 y.urg) ∧ w'.cell? ⟨ga, k * 4 + 2, none⟩ = some (.int .i64 y.id) ∧ w'.cell? ⟨ga, k * 4 + 3, none⟩ = some (.int .i64 y.no)) (ds := [18, 19]) #[false, false, false, false, false, false, false, false, false, false, false, false, false, false, false, false, false, false, false, false] (by kernel_rfl) rfl rfl ⟨hbk, c0, c1, c2, c3, d0, d1, d2, d3⟩ (fun hHeld => ?_)
 refine with_tabW rg51_1_tab rg51_1_bits (fun HT_ HW_ => ?_)
 refine pure_ (i := 0) (N := some 7) (v := ?_) (a' := ?_) #[true, false, false, false, false, false, false, false, false, false, false, false, false, false, false, false, false, false, false, false] rfl rfl (any_of HT_.out (by kernel_rfl)) (fun _ _ _ h => h) (Or.inl ⟨by rfl, ?_⟩) ?_ ?_
 rotate_left
 ·intro w'
  go_simp
  with_reducible rfl
 rotate_left
 ·simp only [Act.put, List.setIfInBounds_toArray, List.set_cons_zero, List.set_cons_succ, i64_w, i32_w]
  rfl
 refine pure_ (i := 1) (N := some 8) (v := ?_) (a' := ?_) #[true, true, false, false, false, false, false, false, false, false, false, false, false, false, false, false, false, false, false, false] rfl rfl (any_of HT_.out (by kernel_rfl)) (fun _ _ _ h => h) (Or.inl ⟨by rfl, ?_⟩) ?_ ?_
 rotate_left
 ·intro w'
  go_simp
  with_reducible rfl
 rotate_left
 ·simp only [Act.put, List.setIfInBounds_toArray, List.set_cons_zero, List.set_cons_succ, i64_w, i32_w]
  rfl
 refine pure_ (i := 2) (N := some 9) (v := ?_) (a' := ?_) #[true, true, true, false, false, false, false, false, false, false, false, false, false, false, false, false, false, false, false, false] rfl rfl (any_of HT_.out (by kernel_rfl)) (fun _ _ _ h => h) (Or.inl ⟨by rfl, ?_⟩) ?_ ?_
 rotate_left
 ·intro w'
  go_simp
  with_reducible rfl
 rotate_left
 ·simp only [Act.put, List.setIfInBounds_toArray, List.set_cons_zero, List.set_cons_succ, i64_w, i32_w]
  rfl
 refine take_ (i := 3) (N := some 10) (v := ?_) (a' := ?_) #[true, true, true, true, false, false, false, false, false, false, false, false, false, false, false, false, false, false, false, false] rfl rfl (take_ofW HT_.out HW_.out (by kernel_rfl)) (fun _ _ _ h => h) (Or.inl ⟨by rfl, ?_⟩) hHeld ?_ ?_
 rotate_left
 ·rintro w' ⟨s0, s1, s2, s3, s4, s5, s6, s7, s8⟩
  have y1 : w'.cell? ⟨g, 1, none⟩ = some (.func (.func 23) #[] #[]) := (blk_cell s0 1).trans rfl
  go_simp
  with_reducible rfl
 rotate_left
 ·simp only [Act.put, List.setIfInBounds_toArray, List.set_cons_zero, List.set_cons_succ, i64_w, i32_w]
  rfl
 refine pure_ (i := 4) (N := some 11) (v := ?_) (a' := ?_) #[true, true, true, true, true, false, false, false, false, false, false, false, false, false, false, false, false, false, false, false] rfl rfl (any_of HT_.out (by kernel_rfl)) (fun _ _ _ h => h) (Or.inl ⟨by rfl, ?_⟩) ?_ ?_
 rotate_left
 ·intro w'
  go_simp
  with_reducible rfl
 rotate_left
 ·simp only [Act.put, List.setIfInBounds_toArray, List.set_cons_zero, List.set_cons_succ, i64_w, i32_w]
  rfl
 refine pure_ (i := 5) (N := some 12) (v := ?_) (a' := ?_) #[true, true, true, true, true, true, false, false, false, false, false, false, false, false, false, false, false, false, false, false] rfl rfl (any_of HT_.out (by kernel_rfl)) (fun _ _ _ h => h) (Or.inl ⟨by rfl, ?_⟩) ?_ ?_
 rotate_left
 ·intro w'
  go_simp
  with_reducible rfl
 rotate_left
 ·simp only [Act.put, List.setIfInBounds_toArray, List.set_cons_zero, List.set_cons_succ, i64_w, i32_w]
  rfl
 refine pure_ (i := 6) (N := some 13) (v := ?_) (a' := ?_) #[true, true, true, true, true, true, true, false, false, false, false, false, false, false, false, false, false, false, false, false] rfl rfl (any_of HT_.out (by kernel_rfl)) (fun _ _ _ h => h) (Or.inl ⟨by rfl, ?_⟩) ?_ ?_
 rotate_left
 ·intro w'
  go_simp
  with_reducible rfl
 rotate_left
 ·simp only [Act.put, List.setIfInBounds_toArray, List.set_cons_zero, List.set_cons_succ, i64_w, i32_w]
  rfl
 refine take_ (i := 7) (N := some 14) (v := ?_) (a' := ?_) #[true, true, true, true, true, true, true, true, false, false, false, false, false, false, false, false, false, false, false, false] rfl rfl (take_ofW HT_.out HW_.out (by kernel_rfl)) (fun _ _ _ h => h) (Or.inl ⟨by rfl, ?_⟩) hHeld ?_ ?_
 rotate_left
 ·rintro w' ⟨s0, s1, s2, s3, s4, s5, s6, s7, s8⟩
  have y0 : w'.cell? ⟨g, 0, none⟩ = some (.slice (some ⟨ga, 0, none⟩) n c) := (blk_cell s0 0).trans rfl
  go_simp
  with_reducible rfl
 rotate_left
 ·simp only [Act.put, List.setIfInBounds_toArray, List.set_cons_zero, List.set_cons_succ, i64_w, i32_w]
  rfl
 refine pure_ (i := 8) (N := some 15) (v := ?_) (a' := ?_) #[true, true, true, true, true, true, true, true, true, false, false, false, false, false, false, false, false, false, false, false] rfl rfl (any_of HT_.out (by kernel_rfl)) (fun _ _ _ h => h) (Or.inl ⟨by rfl, ?_⟩) ?_ ?_
 rotate_left
 ·intro w'
  go_simp
  with_reducible rfl
 rotate_left
 ·simp only [Act.put, List.setIfInBounds_toArray, List.set_cons_zero, List.set_cons_succ, i64_w, i32_w]
  rfl
 refine pure_ (i := 9) (N := some 16) (v := ?_) (a' := ?_) #[true, true, true, true, true, true, true, true, true, true, false, false, false, false, false, false, false, false, false, false] rfl rfl (any_of HT_.out (by kernel_rfl)) (fun _ _ _ h => h) (Or.inl ⟨by rfl, ?_⟩) ?_ ?_
 rotate_left
 ·intro w'
  go_simp
  with_reducible rfl
 rotate_left
 ·simp only [Act.put, List.setIfInBounds_toArray, List.set_cons_zero, List.set_cons_succ, i64_w, i32_w]
  rfl
 refine take_ (i := 10) (N := some 17) (v := ?_) (a' := ?_) #[true, true, true, true, true, true, true, true, true, true, true, false, false, false, false, false, false, false, false, false] rfl rfl (take_ofW HT_.out HW_.out (by kernel_rfl)) (fun _ _ _ h => h) (Or.inl ⟨by rfl, ?_⟩) hHeld ?_ ?_
 rotate_left
 ·rintro w' ⟨s0, s1, s2, s3, s4, s5, s6, s7, s8⟩
  go_simp
  with_reducible rfl
 rotate_left
 ·simp only [Act.put, List.setIfInBounds_toArray, List.set_cons_zero, List.set_cons_succ, i64_w, i32_w]
  rfl
 refine pure_ (i := 11) (N := some 18) (v := ?_) (a' := ?_) #[true, true, true, true, true, true, true, true, true, true, true, true, false, false, false, false, false, false, false, false] rfl rfl (any_of HT_.out (by kernel_rfl)) (fun _ _ _ h => h) (Or.inl ⟨by rfl, ?_⟩) ?_ ?_
 rotate_left
 ·intro w'
  go_simp
  with_reducible rfl
 rotate_left
 ·simp only [Act.put, List.setIfInBounds_toArray, List.set_cons_zero, List.set_cons_succ, i64_w, i32_w]
  rfl
 refine pure_ (i := 12) (N := some 19) (v := ?_) (a' := ?_) #[true, true, true, true, true, true, true, true, true, true, true, true, true, false, false, false, false, false, false, false] rfl rfl (any_of HT_.out (by kernel_rfl)) (fun _ _ _ h => h) (Or.inl ⟨by rfl, ?_⟩) ?_ ?_
 rotate_left
 ·intro w'
  go_simp
  with_reducible rfl
 rotate_left
 ·simp only [Act.put, List.setIfInBounds_toArray, List.set_cons_zero, List.set_cons_succ, i64_w, i32_w]
  rfl
 refine pure_ (i := 13) (N := some 20) (v := ?_) (a' := ?_) #[true, true, true, true, true, true, true, true, true, true, true, true, true, true, false, false, false, false, false, false] rfl rfl (any_of HT_.out (by kernel_rfl)) (fun _ _ _ h => h) (Or.inl ⟨by rfl, ?_⟩) ?_ ?_
 rotate_left
 ·intro w'
  go_simp
  with_reducible rfl
 rotate_left
 ·simp only [Act.put, List.setIfInBounds_toArray, List.set_cons_zero, List.set_cons_succ, i64_w, i32_w]
  rfl
 refine take_ (i := 14) (N := some 21) (v := ?_) (a' := ?_) #[true, true, true, true, true, true, true, true, true, true, true, true, true, true, true, false, false, false, false, false] rfl rfl (take_ofW HT_.out HW_.out (by kernel_rfl)) (fun _ _ _ h => h) (Or.inl ⟨by rfl, ?_⟩) hHeld ?_ ?_
 rotate_left
 ·rintro w' ⟨s0, s1, s2, s3, s4, s5, s6, s7, s8⟩
  have y0 : w'.cell? ⟨g, 0, none⟩ = some (.slice (some ⟨ga, 0, none⟩) n c) := (blk_cell s0 0).trans rfl
  go_simp
  with_reducible rfl
 rotate_left
 ·simp only [Act.put, List.setIfInBounds_toArray, List.set_cons_zero, List.set_cons_succ, i64_w, i32_w]
  rfl
 refine pure_ (i := 15) (N := some 22) (v := ?_) (a' := ?_) #[true, true, true, true, true, true, true, true, true, true, true, true, true, true, true, true, false, false, false, false] rfl rfl (any_of HT_.out (by kernel_rfl)) (fun _ _ _ h => h) (Or.inl ⟨by rfl, ?_⟩) ?_ ?_
 rotate_left
 ·intro w'
  go_simp
  with_reducible rfl
 rotate_left
 ·simp only [Act.put, List.setIfInBounds_toArray, List.set_cons_zero, List.set_cons_succ, i64_w, i32_w]
  rfl
 refine pure_ (i := 16) (N := some 23) (v := ?_) (a' := ?_) #[true, true, true, true, true, true, true, true, true, true, true, true, true, true, true, true, true, false, false, false] rfl rfl (any_of HT_.out (by kernel_rfl)) (fun _ _ _ h => h) (Or.inl ⟨by rfl, ?_⟩) ?_ ?_
 rotate_left
 ·intro w'
  go_simp
  with_reducible rfl
 rotate_left
 ·simp only [Act.put, List.setIfInBounds_toArray, List.set_cons_zero, List.set_cons_succ, i64_w, i32_w]
  rfl
 refine take_ (i := 17) (N := some 24) (v := ?_) (a' := ?_) #[true, true, true, true, true, true, true, true, true, true, true, true, true, true, true, true, true, true, false, false] rfl rfl (take_ofW HT_.out HW_.out (by kernel_rfl)) (fun _ _ _ h => h) (Or.inl ⟨by rfl, ?_⟩) hHeld ?_ ?_
 rotate_left
 ·rintro w' ⟨s0, s1, s2, s3, s4, s5, s6, s7, s8⟩
  go_simp
  with_reducible rfl
 rotate_left
 ·simp only [Act.put, List.setIfInBounds_toArray, List.set_cons_zero, List.set_cons_succ, i64_w, i32_w]
  rfl
 refine last_ (i := 18) (N := some 25) #[true, true, true, true, true, true, true, true, true, true, true, true, true, true, true, true, true, true, true, false] rfl rfl (one_of HT_.out (by kernel_rfl)) (by decide) (fun K hK => ?_)
 (refine goesC_ (.tmp 10) #[] Try.func23 (by kernel_rfl) rfl #[a4 x, a4 y] #[a4 x, a4 y] (by rfl) rfl rfl rfl (by (try simp only [List.map_toArray, List.map_cons, List.map_nil]); first | done | rfl) (by simp) ?_; refine (early_calls x y _).mono ?_; rintro e w6 ⟨rfl, hb⟩; refine ⟨_, rfl, ?_⟩; have HB6 := Aside0.mk (below_step (w := w) (below_drew (Below.refl _ w)) hb); clear hb)
 refine hK.out _ _ ?_
 clear hK K
 try simp only [Act.put, List.setIfInBounds_toArray, List.set_cons_zero, List.set_cons_succ, i64_w, i32_w]
 refine pure_ (i := 19) (N := some 6) (v := ?_) (a' := ?_) #[true, true, true, true, true, true, true, true, true, true, true, true, true, true, true, true, true, true, true, true] rfl rfl (any_of HT_.out (by kernel_rfl)) (fun _ _ _ h => h) (Or.inl ⟨by rfl, ?_⟩) ?_ ?_
 rotate_left
 ·intro w'
  go_simp
  with_reducible rfl
 rotate_left
 ·simp only [Act.put, List.setIfInBounds_toArray, List.set_cons_zero, List.set_cons_succ, i64_w, i32_w]
  rfl
 refine done_ (done_of HT_.out (by kernel_rfl)) ?_
 clear hHeld
 go_wp2
 go_ret
 exact ⟨rfl, HB6.out⟩
set_option maxHeartbeats 8000000 in
set_option maxRecDepth 100000 in
theorem less_calls24 (W w : World) (g : Nat) (v : Value) (l : List Tk) (h : HT W w g 24 v l) (i k : Nat) (hi : i < l.length) (hk : k < l.length) : Calls Try.prog 51 #[.pointer (some ⟨g, 0, none⟩), .int .i64 i, .int .i64 k] w fun e w' => e = .returned (.bool (LT 24 (l.getD i t0) (l.getD k t0))) ∧ Below w.heap.size w w' := by
 have hu61 := Try.underlying61
 obtain ⟨ga, c, rfl⟩ := ht_form h (by omega)
 obtain ⟨n, hn⟩ : ∃ n, n = l.length := ⟨_, rfl⟩
 rw [← hn] at h hi hk
 have b1 : decide ((i : Int) < (n : Int)) = true := decide_eq_true (by omega)
 have b2 : decide (i < n) = true := decide_eq_true hi
 have b3 : decide ((k : Int) < (n : Int)) = true := decide_eq_true (by omega)
 have b4 : decide (k < n) = true := decide_eq_true hk
 have hd := h.drew
 have hbk := hd.blk
 obtain ⟨c0, c1, c2, c3, _⟩ := T4_cell hd.row i hi
 obtain ⟨d0, d1, d2, d3, _⟩ := T4_cell hd.row k hk
 obtain ⟨x, hx⟩ : ∃ x, x = l.getD i t0 := ⟨_, rfl⟩
 obtain ⟨y, hy⟩ : ∃ y, y = l.getD k t0 := ⟨_, rfl⟩
 rw [← hx] at c0 c1 c2 c3 ⊢
 rw [← hy] at d0 d1 d2 d3 ⊢
 clear h hn hd hx hy
 go_enter Try.func51, Try.ntmps51
 go_upto_region 1 with (fail)
 refine start_ (n := 20) (S := fun w' => w'.heap[g]? = some (.cells #[.slice (some ⟨ga, 0, none⟩) n c, .func (.func 24) #[] #[]] 54 (0, 0)) ∧ w'.cell? ⟨ga, i * 4, none⟩ = some (.int .i64 x.at_) ∧ w'.cell? ⟨ga, i * 4 + 1, none⟩ = some (.int .i64 x.urg) ∧ w'.cell? ⟨ga, i * 4 + 2, none⟩ = some (.int .i64 x.id) ∧ w'.cell? ⟨ga, i * 4 + 3, none⟩ = some (.int .i64 x.no) ∧ w'.cell? ⟨ga, k * 4, none⟩ = some (.int .i64 y.at_) ∧ w'.cell? ⟨ga, k * 4 + 1, none⟩ = some (.int .i64 y.urg) ∧ w'.cell? ⟨ga, k * 4 + 2, none⟩ = some (.int .i64 y.id) ∧ w'.cell? ⟨ga, k * 4 + 3, none⟩ = some (.int .i64 y.no)) (ds := [18, 19]) #[false, false, false, false, false, false, false, false, false, false, false, false, false, false, false, false, false, false, false, false] (by kernel_rfl) rfl rfl ⟨hbk, c0, c1, c2, c3, d0, d1, d2, d3⟩ (fun hHeld => ?_)
 refine with_tabW rg51_1_tab rg51_1_bits (fun HT_ HW_ => ?_)
 refine pure_ (i := 0) (N := some 7) (v := ?_) (a' := ?_) #[true, false, false, false, false, false, false, false, false, false, false, false, false, false, false, false, false, false, false, false] rfl rfl (any_of HT_.out (by kernel_rfl)) (fun _ _ _ h => h) (Or.inl ⟨by rfl, ?_⟩) ?_ ?_
 rotate_left
 ·intro w'
  go_simp
  with_reducible rfl
 rotate_left
 ·simp only [Act.put, List.setIfInBounds_toArray, List.set_cons_zero, List.set_cons_succ, i64_w, i32_w]
  rfl
 refine pure_ (i := 1) (N := some 8) (v := ?_) (a' := ?_) #[true, true, false, false, false, false, false, false, false, false, false, false, false, false, false, false, false, false, false, false] rfl rfl (any_of HT_.out (by kernel_rfl)) (fun _ _ _ h => h) (Or.inl ⟨by rfl, ?_⟩) ?_ ?_
 rotate_left
 ·intro w'
  go_simp
  with_reducible rfl
 rotate_left
 ·simp only [Act.put, List.setIfInBounds_toArray, List.set_cons_zero, List.set_cons_succ, i64_w, i32_w]
  rfl
 refine pure_ (i := 2) (N := some 9) (v := ?_) (a' := ?_) #[true, true, true, false, false, false, false, false, false, false, false, false, false, false, false, false, false, false, false, false] rfl rfl (any_of HT_.out (by kernel_rfl)) (fun _ _ _ h => h) (Or.inl ⟨by rfl, ?_⟩) ?_ ?_
 rotate_left
 ·intro w'
  go_simp
  with_reducible rfl
 rotate_left
 ·simp only [Act.put, List.setIfInBounds_toArray, List.set_cons_zero, List.set_cons_succ, i64_w, i32_w]
  rfl
 refine take_ (i := 3) (N := some 10) (v := ?_) (a' := ?_) #[true, true, true, true, false, false, false, false, false, false, false, false, false, false, false, false, false, false, false, false] rfl rfl (take_ofW HT_.out HW_.out (by kernel_rfl)) (fun _ _ _ h => h) (Or.inl ⟨by rfl, ?_⟩) hHeld ?_ ?_
 rotate_left
 ·rintro w' ⟨s0, s1, s2, s3, s4, s5, s6, s7, s8⟩
  have y1 : w'.cell? ⟨g, 1, none⟩ = some (.func (.func 24) #[] #[]) := (blk_cell s0 1).trans rfl
  go_simp
  with_reducible rfl
 rotate_left
 ·simp only [Act.put, List.setIfInBounds_toArray, List.set_cons_zero, List.set_cons_succ, i64_w, i32_w]
  rfl
 refine pure_ (i := 4) (N := some 11) (v := ?_) (a' := ?_) #[true, true, true, true, true, false, false, false, false, false, false, false, false, false, false, false, false, false, false, false] rfl rfl (any_of HT_.out (by kernel_rfl)) (fun _ _ _ h => h) (Or.inl ⟨by rfl, ?_⟩) ?_ ?_
 rotate_left
 ·intro w'
  go_simp
  with_reducible rfl
 rotate_left
 ·simp only [Act.put, List.setIfInBounds_toArray, List.set_cons_zero, List.set_cons_succ, i64_w, i32_w]
  rfl
 refine pure_ (i := 5) (N := some 12) (v := ?_) (a' := ?_) #[true, true, true, true, true, true, false, false, false, false, false, false, false, false, false, false, false, false, false, false] rfl rfl (any_of HT_.out (by kernel_rfl)) (fun _ _ _ h => h) (Or.inl ⟨by rfl, ?_⟩) ?_ ?_
 rotate_left
 ·intro w'
  go_simp
  with_reducible rfl
 rotate_left
 ·simp only [Act.put, List.setIfInBounds_toArray, List.set_cons_zero, List.set_cons_succ, i64_w, i32_w]
  rfl
 refine pure_ (i := 6) (N := some 13) (v := ?_) (a' := ?_) #[true, true, true, true, true, true, true, false, false, false, false, false, false, false, false, false, false, false, false, false] rfl rfl (any_of HT_.out (by kernel_rfl)) (fun _ _ _ h => h) (Or.inl ⟨by rfl, ?_⟩) ?_ ?_
 rotate_left
 ·intro w'
  go_simp
  with_reducible rfl
 rotate_left
 ·simp only [Act.put, List.setIfInBounds_toArray, List.set_cons_zero, List.set_cons_succ, i64_w, i32_w]
  rfl
 refine take_ (i := 7) (N := some 14) (v := ?_) (a' := ?_) #[true, true, true, true, true, true, true, true, false, false, false, false, false, false, false, false, false, false, false, false] rfl rfl (take_ofW HT_.out HW_.out (by kernel_rfl)) (fun _ _ _ h => h) (Or.inl ⟨by rfl, ?_⟩) hHeld ?_ ?_
 rotate_left
 ·rintro w' ⟨s0, s1, s2, s3, s4, s5, s6, s7, s8⟩
  have y0 : w'.cell? ⟨g, 0, none⟩ = some (.slice (some ⟨ga, 0, none⟩) n c) := (blk_cell s0 0).trans rfl
  go_simp
  with_reducible rfl
 rotate_left
 ·simp only [Act.put, List.setIfInBounds_toArray, List.set_cons_zero, List.set_cons_succ, i64_w, i32_w]
  rfl
 refine pure_ (i := 8) (N := some 15) (v := ?_) (a' := ?_) #[true, true, true, true, true, true, true, true, true, false, false, false, false, false, false, false, false, false, false, false] rfl rfl (any_of HT_.out (by kernel_rfl)) (fun _ _ _ h => h) (Or.inl ⟨by rfl, ?_⟩) ?_ ?_
 rotate_left
 ·intro w'
  go_simp
  with_reducible rfl
 rotate_left
 ·simp only [Act.put, List.setIfInBounds_toArray, List.set_cons_zero, List.set_cons_succ, i64_w, i32_w]
  rfl
 refine pure_ (i := 9) (N := some 16) (v := ?_) (a' := ?_) #[true, true, true, true, true, true, true, true, true, true, false, false, false, false, false, false, false, false, false, false] rfl rfl (any_of HT_.out (by kernel_rfl)) (fun _ _ _ h => h) (Or.inl ⟨by rfl, ?_⟩) ?_ ?_
 rotate_left
 ·intro w'
  go_simp
  with_reducible rfl
 rotate_left
 ·simp only [Act.put, List.setIfInBounds_toArray, List.set_cons_zero, List.set_cons_succ, i64_w, i32_w]
  rfl
 refine take_ (i := 10) (N := some 17) (v := ?_) (a' := ?_) #[true, true, true, true, true, true, true, true, true, true, true, false, false, false, false, false, false, false, false, false] rfl rfl (take_ofW HT_.out HW_.out (by kernel_rfl)) (fun _ _ _ h => h) (Or.inl ⟨by rfl, ?_⟩) hHeld ?_ ?_
 rotate_left
 ·rintro w' ⟨s0, s1, s2, s3, s4, s5, s6, s7, s8⟩
  go_simp
  with_reducible rfl
 rotate_left
 ·simp only [Act.put, List.setIfInBounds_toArray, List.set_cons_zero, List.set_cons_succ, i64_w, i32_w]
  rfl
 refine pure_ (i := 11) (N := some 18) (v := ?_) (a' := ?_) #[true, true, true, true, true, true, true, true, true, true, true, true, false, false, false, false, false, false, false, false] rfl rfl (any_of HT_.out (by kernel_rfl)) (fun _ _ _ h => h) (Or.inl ⟨by rfl, ?_⟩) ?_ ?_
 rotate_left
 ·intro w'
  go_simp
  with_reducible rfl
 rotate_left
 ·simp only [Act.put, List.setIfInBounds_toArray, List.set_cons_zero, List.set_cons_succ, i64_w, i32_w]
  rfl
 refine pure_ (i := 12) (N := some 19) (v := ?_) (a' := ?_) #[true, true, true, true, true, true, true, true, true, true, true, true, true, false, false, false, false, false, false, false] rfl rfl (any_of HT_.out (by kernel_rfl)) (fun _ _ _ h => h) (Or.inl ⟨by rfl, ?_⟩) ?_ ?_
 rotate_left
 ·intro w'
  go_simp
  with_reducible rfl
 rotate_left
 ·simp only [Act.put, List.setIfInBounds_toArray, List.set_cons_zero, List.set_cons_succ, i64_w, i32_w]
  rfl
 refine pure_ (i := 13) (N := some 20) (v := ?_) (a' := ?_) #[true, true, true, true, true, true, true, true, true, true, true, true, true, true, false, false, false, false, false, false] rfl rfl (any_of HT_.out (by kernel_rfl)) (fun _ _ _ h => h) (Or.inl ⟨by rfl, ?_⟩) ?_ ?_
 rotate_left
 ·intro w'
  go_simp
  with_reducible rfl
 rotate_left
 ·simp only [Act.put, List.setIfInBounds_toArray, List.set_cons_zero, List.set_cons_succ, i64_w, i32_w]
  rfl
 refine take_ (i := 14) (N := some 21) (v := ?_) (a' := ?_) #[true, true, true, true, true, true, true, true, true, true, true, true, true, true, true, false, false, false, false, false] rfl rfl (take_ofW HT_.out HW_.out (by kernel_rfl)) (fun _ _ _ h => h) (Or.inl ⟨by rfl, ?_⟩) hHeld ?_ ?_
 rotate_left
 ·rintro w' ⟨s0, s1, s2, s3, s4, s5, s6, s7, s8⟩
  have y0 : w'.cell? ⟨g, 0, none⟩ = some (.slice (some ⟨ga, 0, none⟩) n c) := (blk_cell s0 0).trans rfl
  go_simp
  with_reducible rfl
 rotate_left
 ·simp only [Act.put, List.setIfInBounds_toArray, List.set_cons_zero, List.set_cons_succ, i64_w, i32_w]
  rfl
 refine pure_ (i := 15) (N := some 22) (v := ?_) (a' := ?_) #[true, true, true, true, true, true, true, true, true, true, true, true, true, true, true, true, false, false, false, false] rfl rfl (any_of HT_.out (by kernel_rfl)) (fun _ _ _ h => h) (Or.inl ⟨by rfl, ?_⟩) ?_ ?_
 rotate_left
 ·intro w'
  go_simp
  with_reducible rfl
 rotate_left
 ·simp only [Act.put, List.setIfInBounds_toArray, List.set_cons_zero, List.set_cons_succ, i64_w, i32_w]
  rfl
 refine pure_ (i := 16) (N := some 23) (v := ?_) (a' := ?_) #[true, true, true, true, true, true, true, true, true, true, true, true, true, true, true, true, true, false, false, false] rfl rfl (any_of HT_.out (by kernel_rfl)) (fun _ _ _ h => h) (Or.inl ⟨by rfl, ?_⟩) ?_ ?_
 rotate_left
 ·intro w'
  go_simp
  with_reducible rfl
 rotate_left
 ·simp only [Act.put, List.setIfInBounds_toArray, List.set_cons_zero, List.set_cons_succ, i64_w, i32_w]
  rfl
 refine take_ (i := 17) (N := some 24) (v := ?_) (a' := ?_) #[true, true, true, true, true, true, true, true, true, true, true, true, true, true, true, true, true, true, false, false] rfl rfl (take_ofW HT_.out HW_.out (by kernel_rfl)) (fun _ _ _ h => h) (Or.inl ⟨by rfl, ?_⟩) hHeld ?_ ?_
 rotate_left
 ·rintro w' ⟨s0, s1, s2, s3, s4, s5, s6, s7, s8⟩
  go_simp
  with_reducible rfl
 rotate_left
 ·simp only [Act.put, List.setIfInBounds_toArray, List.set_cons_zero, List.set_cons_succ, i64_w, i32_w]
  rfl
 refine last_ (i := 18) (N := some 25) #[true, true, true, true, true, true, true, true, true, true, true, true, true, true, true, true, true, true, true, false] rfl rfl (one_of HT_.out (by kernel_rfl)) (by decide) (fun K hK => ?_)
 (refine goesC_ (.tmp 10) #[] Try.func24 (by kernel_rfl) rfl #[a4 x, a4 y] #[a4 x, a4 y] (by rfl) rfl rfl rfl (by (try simp only [List.map_toArray, List.map_cons, List.map_nil]); first | done | rfl) (by simp) ?_; refine (urgent_calls x y _).mono ?_; rintro e w6 ⟨rfl, hb⟩; refine ⟨_, rfl, ?_⟩; have HB6 := Aside0.mk (below_step (w := w) (below_drew (Below.refl _ w)) hb); clear hb)
 refine hK.out _ _ ?_
 clear hK K
 try simp only [Act.put, List.setIfInBounds_toArray, List.set_cons_zero, List.set_cons_succ, i64_w, i32_w]
 refine pure_ (i := 19) (N := some 6) (v := ?_) (a' := ?_) #[true, true, true, true, true, true, true, true, true, true, true, true, true, true, true, true, true, true, true, true] rfl rfl (any_of HT_.out (by kernel_rfl)) (fun _ _ _ h => h) (Or.inl ⟨by rfl, ?_⟩) ?_ ?_
 rotate_left
 ·intro w'
  go_simp
  with_reducible rfl
 rotate_left
 ·simp only [Act.put, List.setIfInBounds_toArray, List.set_cons_zero, List.set_cons_succ, i64_w, i32_w]
  rfl
 refine done_ (done_of HT_.out (by kernel_rfl)) ?_
 clear hHeld
 go_wp2
 go_ret
 exact ⟨rfl, HB6.out⟩
theorem less_calls (W w : World) (g fn : Nat) (hfn : fn = 23 ∨ fn = 24) (v : Value) (l : List Tk) (h : HT W w g fn v l) (i k : Nat) (hi : i < l.length) (hk : k < l.length) : Calls Try.prog 51 #[.pointer (some ⟨g, 0, none⟩), .int .i64 i, .int .i64 k] w fun e w' => e = .returned (.bool (LT fn (l.getD i t0) (l.getD k t0))) ∧ Below w.heap.size w w' := by
 rcases hfn with rfl | rfl
 ·exact less_calls23 W w g v l h i k hi hk
 ·exact less_calls24 W w g v l h i k hi hk
end Go.Proofs.Ytacceeefcelkhaa.Al

/- The heap's methods that write: Swap, Push, Pop. -/
namespace Go.Proofs.Ytacceeefcelkhaa.Al
open Go.RowKit Go.Proofs.Ytacceeefcelkhaa.DueHeap Go.Proofs.Ytacceeefcelkhaa.DueSpec Go.Proofs.YtacceeefcelkhaaW.PrintWords Go.Proofs.YtacceeefcelkhaaW.PrintLast Go.Proofs.YtacceeefcelkhaaW.PrintMore
set_option linter.unusedVariables false
set_option linter.unusedSimpArgs false
theorem info61 : (Try.prog.info? 61).map (fun i => (i.zero, i.size, i.bytes)) = some (some (.agg #[.int .i64 0, .int .i64 0, .int .i64 0, .int .i64 0]), 4, 32) := by kernel_rfl
theorem due_grown (W : World) (g j : Nat) (u : Value) : W.grownBy (W.setCell ⟨g, j, none⟩ u) (some g) := ⟨rfl, rfl, rfl, by simp [World.setCell], fun k _ hk => Below.heap_setCell W ⟨g, j, none⟩ u k (fun e => hk (by rw [e]))⟩
/-- A whole element stored: the four cells one by one. -/
theorem T4_chain {e : Nat} {w : World} {base : Nat} {ok : Nat → Prop} {g n c : Nat} {l : List Tk} (h : kT.R e w base ok (.slice (some ⟨g, 0, none⟩) n c) l) (i : Nat) (hi : i < n) (x : Tk) :
  kT.R e ((((w.setCell ⟨g, i * 4, none⟩ (.int .i64 x.at_)).setCell ⟨g, i * 4 + 1, none⟩ (.int .i64 x.urg)).setCell ⟨g, i * 4 + 2, none⟩ (.int .i64 x.id)).setCell ⟨g, i * 4 + 3, none⟩ (.int .i64 x.no)) base ok (.slice (some ⟨g, 0, none⟩) n c) (l.set i x) ∧ w.grownBy ((((w.setCell ⟨g, i * 4, none⟩ (.int .i64 x.at_)).setCell ⟨g, i * 4 + 1, none⟩ (.int .i64 x.urg)).setCell ⟨g, i * 4 + 2, none⟩ (.int .i64 x.id)).setCell ⟨g, i * 4 + 3, none⟩ (.int .i64 x.no)) (some g) := T4_put h i hi x
theorem ht_grown {W w w1 : World} {g fn : Nat} {v : Value} {l l' : List Tk} (h : HT W w g fn v l) (hr : kT.R 61 w1 W.heap.size (fun _ => True) v l') (hg : w.grownBy w1 v.ownBlock) (hb : Below W.heap.size W w1) : HT W w1 g fn v l' :=
 ⟨(hg.block g (blk_lt h.blk) (Kd.R_ne h.row h.blk (by decide))).trans h.blk, h.ge, hr, hb⟩
theorem ht_belrow {W w w1 : World} {g fn : Nat} {v : Value} {l : List Tk} (h : HT W w g fn v l) (hg : w.grownBy w1 v.ownBlock) : Below W.heap.size W w1 := Below.grown h.bel hg h.bel.size (fun k e => Kd.R_base h.row k e)
theorem as61 (v : Value) (w : World) : Sem.run Try.prog (Instr.typeAssert (.iface 61 v) 20 61 false) w = .ok v w := by kernel_rfl
def rg54_0_T : Bool × List (List Nat × List Nat) := (true, [([], []), ([0], [0]), ([1], [1]), ([2], [2]), ([], []), ([], []), ([5], [5]), ([6], [6]), ([7], [7]), ([], []), ([], []), ([10], [10]), ([11], [11]), ([12], [12]), ([], []), ([13, 14], [13, 14]), ([15], [15]), ([], []), ([17], [17]), ([18], [18]), ([19], [19]), ([], []), ([20, 21], [20, 21]), ([22], [22]), ([3, 4, 0, 1, 2, 3, 4, 8, 10, 11, 12, 13, 14, 15, 16, 20, 23], [3, 4]), ([24, 16, 0, 1, 2, 3, 4, 8, 10, 11, 12, 13, 14, 15, 16, 20, 23], [16, 24]), ([8, 9, 0, 1, 2, 3, 4, 5, 6, 7, 8, 9, 10, 11, 12, 13, 14, 15, 16, 17, 18, 19, 20, 21, 22, 23, 24, 25], [8, 9]), ([26, 23, 25, 0, 1, 2, 3, 4, 5, 6, 7, 8, 9, 10, 11, 12, 13, 14, 15, 16, 17, 18, 19, 20, 21, 22, 23, 24, 25], [23, 26])])
def rg54_0_B : List Nat := [0, 1, 3, 7, 0, 0, 32, 96, 224, 0, 0, 1024, 3072, 7168, 0, 31744, 64512, 0, 131072, 393216, 917504, 0, 4063232, 8257536, 16776703, 33553919, 67108863, 134217727]
theorem rg54_0_tab : rtab .any (opsOf Try.f54 0) = rg54_0_T := by kernel_rfl
theorem rg54_0_bits : waitsOk rg54_0_T.2 rg54_0_B = true := by kernel_rfl
def rg53_0_T : Bool × List (List Nat × List Nat) := (true, [([], []), ([], []), ([1], [1]), ([2], [2]), ([3], [3]), ([], []), ([5], [5]), ([6], [6]), ([4, 7], [4, 7]), ([0, 0, 1, 2, 3, 4, 5, 6, 7, 8], [0]), ([9, 0, 1, 2, 3, 4, 5, 6, 7, 8], [9]), ([10, 8, 8, 0, 1, 2, 3, 4, 5, 6, 7, 8], [8, 10])])
def rg53_0_B : List Nat := [0, 0, 2, 6, 14, 0, 32, 96, 254, 511, 1023, 2047]
theorem rg53_0_tab : rtab .any (opsOf Try.f53 0) = rg53_0_T := by kernel_rfl
theorem rg53_0_bits : waitsOk rg53_0_T.2 rg53_0_B = true := by kernel_rfl
set_option maxHeartbeats 8000000 in
set_option maxRecDepth 100000 in
theorem hswap_calls (W w : World) (g fn : Nat) (v : Value) (l : List Tk) (h : HT W w g fn v l) (i k : Nat) (hi : i < l.length) (hk : k < l.length) : Calls Try.prog 54 #[.pointer (some ⟨g, 0, none⟩), .int .i64 i, .int .i64 k] w fun e w' => e = .returned (.tuple #[]) ∧ HT W w' g fn v (swap t0 l i k) ∧ Step w w' g v v := by
 have hu61 := Try.underlying61
 obtain ⟨ga, c, rfl⟩ := ht_form h (by omega)
 obtain ⟨n, hn⟩ : ∃ n, n = l.length := ⟨_, rfl⟩
 have HN := Aside0.mk hn
 rw [← hn] at h hi hk ⊢
 have b1 : decide ((i : Int) < (n : Int)) = true := decide_eq_true (by omega)
 have b2 : decide (i < n) = true := decide_eq_true hi
 have b3 : decide ((k : Int) < (n : Int)) = true := decide_eq_true (by omega)
 have b4 : decide (k < n) = true := decide_eq_true hk
 have hd := h.drew
 have hbk := hd.blk
 obtain ⟨c0, c1, c2, c3, cz⟩ := T4_cell hd.row i hi
 obtain ⟨d0, d1, d2, d3, _⟩ := T4_cell hd.row k hk
 obtain ⟨x, hx⟩ : ∃ x, x = l.getD i t0 := ⟨_, rfl⟩
 obtain ⟨y, hy⟩ : ∃ y, y = l.getD k t0 := ⟨_, rfl⟩
 rw [← hx] at c0 c1 c2 c3
 rw [← hy] at d0 d1 d2 d3
 have HSW : Aside0 (swap t0 l i k = (l.set i y).set k x) := ⟨by rw [hx, hy]; rfl⟩
 have HI := Aside0.mk hi
 have HK2 := Aside0.mk hk
 clear hn hx hy
 go_enter Try.func54, Try.ntmps54
 refine start_ (n := 28) (S := fun w' => w'.heap[g]? = some (.cells #[.slice (some ⟨ga, 0, none⟩) n c, .func (.func fn) #[] #[]] 54 (0, 0)) ∧ w'.cell? ⟨ga, i * 4, none⟩ = some (.int .i64 x.at_) ∧ w'.cell? ⟨ga, i * 4 + 1, none⟩ = some (.int .i64 x.urg) ∧ w'.cell? ⟨ga, i * 4 + 2, none⟩ = some (.int .i64 x.id) ∧ w'.cell? ⟨ga, i * 4 + 3, none⟩ = some (.int .i64 x.no) ∧ w'.cell? ⟨ga, k * 4, none⟩ = some (.int .i64 y.at_) ∧ w'.cell? ⟨ga, k * 4 + 1, none⟩ = some (.int .i64 y.urg) ∧ w'.cell? ⟨ga, k * 4 + 2, none⟩ = some (.int .i64 y.id) ∧ w'.cell? ⟨ga, k * 4 + 3, none⟩ = some (.int .i64 y.no)) (ds := [25, 27]) #[false, false, false, false, false, false, false, false, false, false, false, false, false, false, false, false, false, false, false, false, false, false, false, false, false, false, false, false] (by kernel_rfl) rfl rfl ⟨hbk, c0, c1, c2, c3, d0, d1, d2, d3⟩ (fun hHeld => ?_)
 refine with_tabW rg54_0_tab rg54_0_bits (fun HT_ HW_ => ?_)
 obtain ⟨W1, hW1⟩ : ∃ W1, W1 = w.drew := ⟨_, rfl⟩
 have HB1 := Aside0.mk (show Below w.heap.size w W1 from by rw [hW1]; exact below_drew (Below.refl _ _))
 have H1 : Aside0 (HT W W1 g fn (.slice (some ⟨ga, 0, none⟩) n c) l) := ⟨by rw [hW1]; exact hd⟩
 rw [← hW1] at hHeld cz c0 c1 c2 c3 ⊢
 have z0 : W1.frozen? ⟨ga, i * 4, none⟩ = false := cz 0
 have z1 := cz 1
 have z2 := cz 2
 have z3 := cz 3
 clear hd hbk hW1 d0 d1 d2 d3 cz h
 refine pure_ (i := 0) (N := some 6) (v := ?_) (a' := ?_) #[true, false, false, false, false, false, false, false, false, false, false, false, false, false, false, false, false, false, false, false, false, false, false, false, false, false, false, false] rfl rfl (any_of HT_.out (by kernel_rfl)) (fun _ _ _ h => h) (Or.inl ⟨by rfl, ?_⟩) ?_ ?_
 rotate_left
 ·intro w'
  go_simp
  with_reducible rfl
 rotate_left
 ·simp only [Act.put, List.setIfInBounds_toArray, List.set_cons_zero, List.set_cons_succ, i64_w, i32_w]
  rfl
 refine pure_ (i := 1) (N := some 7) (v := ?_) (a' := ?_) #[true, true, false, false, false, false, false, false, false, false, false, false, false, false, false, false, false, false, false, false, false, false, false, false, false, false, false, false] rfl rfl (any_of HT_.out (by kernel_rfl)) (fun _ _ _ h => h) (Or.inl ⟨by rfl, ?_⟩) ?_ ?_
 rotate_left
 ·intro w'
  go_simp
  with_reducible rfl
 rotate_left
 ·simp only [Act.put, List.setIfInBounds_toArray, List.set_cons_zero, List.set_cons_succ, i64_w, i32_w]
  rfl
 refine pure_ (i := 2) (N := some 8) (v := ?_) (a' := ?_) #[true, true, true, false, false, false, false, false, false, false, false, false, false, false, false, false, false, false, false, false, false, false, false, false, false, false, false, false] rfl rfl (any_of HT_.out (by kernel_rfl)) (fun _ _ _ h => h) (Or.inl ⟨by rfl, ?_⟩) ?_ ?_
 rotate_left
 ·intro w'
  go_simp
  with_reducible rfl
 rotate_left
 ·simp only [Act.put, List.setIfInBounds_toArray, List.set_cons_zero, List.set_cons_succ, i64_w, i32_w]
  rfl
 refine take_ (i := 3) (N := some 9) (v := ?_) (a' := ?_) #[true, true, true, true, false, false, false, false, false, false, false, false, false, false, false, false, false, false, false, false, false, false, false, false, false, false, false, false] rfl rfl (take_ofW HT_.out HW_.out (by kernel_rfl)) (fun _ _ _ h => h) (Or.inl ⟨by rfl, ?_⟩) hHeld ?_ ?_
 rotate_left
 ·rintro w' ⟨s0, s1, s2, s3, s4, s5, s6, s7, s8⟩
  have y0 : w'.cell? ⟨g, 0, none⟩ = some (.slice (some ⟨ga, 0, none⟩) n c) := (blk_cell s0 0).trans rfl
  go_simp
  with_reducible rfl
 rotate_left
 ·simp only [Act.put, List.setIfInBounds_toArray, List.set_cons_zero, List.set_cons_succ, i64_w, i32_w]
  rfl
 refine pure_ (i := 4) (N := some 10) (v := ?_) (a' := ?_) #[true, true, true, true, true, false, false, false, false, false, false, false, false, false, false, false, false, false, false, false, false, false, false, false, false, false, false, false] rfl rfl (any_of HT_.out (by kernel_rfl)) (fun _ _ _ h => h) (Or.inl ⟨by rfl, ?_⟩) ?_ ?_
 rotate_left
 ·intro w'
  go_simp
  with_reducible rfl
 rotate_left
 ·simp only [Act.put, List.setIfInBounds_toArray, List.set_cons_zero, List.set_cons_succ, i64_w, i32_w]
  rfl
 refine pure_ (i := 5) (N := some 11) (v := ?_) (a' := ?_) #[true, true, true, true, true, true, false, false, false, false, false, false, false, false, false, false, false, false, false, false, false, false, false, false, false, false, false, false] rfl rfl (any_of HT_.out (by kernel_rfl)) (fun _ _ _ h => h) (Or.inl ⟨by rfl, ?_⟩) ?_ ?_
 rotate_left
 ·intro w'
  go_simp
  with_reducible rfl
 rotate_left
 ·simp only [Act.put, List.setIfInBounds_toArray, List.set_cons_zero, List.set_cons_succ, i64_w, i32_w]
  rfl
 refine pure_ (i := 6) (N := some 12) (v := ?_) (a' := ?_) #[true, true, true, true, true, true, true, false, false, false, false, false, false, false, false, false, false, false, false, false, false, false, false, false, false, false, false, false] rfl rfl (any_of HT_.out (by kernel_rfl)) (fun _ _ _ h => h) (Or.inl ⟨by rfl, ?_⟩) ?_ ?_
 rotate_left
 ·intro w'
  go_simp
  with_reducible rfl
 rotate_left
 ·simp only [Act.put, List.setIfInBounds_toArray, List.set_cons_zero, List.set_cons_succ, i64_w, i32_w]
  rfl
 refine pure_ (i := 7) (N := some 13) (v := ?_) (a' := ?_) #[true, true, true, true, true, true, true, true, false, false, false, false, false, false, false, false, false, false, false, false, false, false, false, false, false, false, false, false] rfl rfl (any_of HT_.out (by kernel_rfl)) (fun _ _ _ h => h) (Or.inl ⟨by rfl, ?_⟩) ?_ ?_
 rotate_left
 ·intro w'
  go_simp
  with_reducible rfl
 rotate_left
 ·simp only [Act.put, List.setIfInBounds_toArray, List.set_cons_zero, List.set_cons_succ, i64_w, i32_w]
  rfl
 refine take_ (i := 8) (N := some 14) (v := ?_) (a' := ?_) #[true, true, true, true, true, true, true, true, true, false, false, false, false, false, false, false, false, false, false, false, false, false, false, false, false, false, false, false] rfl rfl (take_ofW HT_.out HW_.out (by kernel_rfl)) (fun _ _ _ h => h) (Or.inl ⟨by rfl, ?_⟩) hHeld ?_ ?_
 rotate_left
 ·rintro w' ⟨s0, s1, s2, s3, s4, s5, s6, s7, s8⟩
  have y0 : w'.cell? ⟨g, 0, none⟩ = some (.slice (some ⟨ga, 0, none⟩) n c) := (blk_cell s0 0).trans rfl
  go_simp
  with_reducible rfl
 rotate_left
 ·simp only [Act.put, List.setIfInBounds_toArray, List.set_cons_zero, List.set_cons_succ, i64_w, i32_w]
  rfl
 refine pure_ (i := 9) (N := some 15) (v := ?_) (a' := ?_) #[true, true, true, true, true, true, true, true, true, true, false, false, false, false, false, false, false, false, false, false, false, false, false, false, false, false, false, false] rfl rfl (any_of HT_.out (by kernel_rfl)) (fun _ _ _ h => h) (Or.inl ⟨by rfl, ?_⟩) ?_ ?_
 rotate_left
 ·intro w'
  go_simp
  with_reducible rfl
 rotate_left
 ·simp only [Act.put, List.setIfInBounds_toArray, List.set_cons_zero, List.set_cons_succ, i64_w, i32_w]
  rfl
 refine pure_ (i := 10) (N := some 16) (v := ?_) (a' := ?_) #[true, true, true, true, true, true, true, true, true, true, true, false, false, false, false, false, false, false, false, false, false, false, false, false, false, false, false, false] rfl rfl (any_of HT_.out (by kernel_rfl)) (fun _ _ _ h => h) (Or.inl ⟨by rfl, ?_⟩) ?_ ?_
 rotate_left
 ·intro w'
  go_simp
  with_reducible rfl
 rotate_left
 ·simp only [Act.put, List.setIfInBounds_toArray, List.set_cons_zero, List.set_cons_succ, i64_w, i32_w]
  rfl
 refine pure_ (i := 11) (N := some 17) (v := ?_) (a' := ?_) #[true, true, true, true, true, true, true, true, true, true, true, true, false, false, false, false, false, false, false, false, false, false, false, false, false, false, false, false] rfl rfl (any_of HT_.out (by kernel_rfl)) (fun _ _ _ h => h) (Or.inl ⟨by rfl, ?_⟩) ?_ ?_
 rotate_left
 ·intro w'
  go_simp
  with_reducible rfl
 rotate_left
 ·simp only [Act.put, List.setIfInBounds_toArray, List.set_cons_zero, List.set_cons_succ, i64_w, i32_w]
  rfl
 refine pure_ (i := 12) (N := some 18) (v := ?_) (a' := ?_) #[true, true, true, true, true, true, true, true, true, true, true, true, true, false, false, false, false, false, false, false, false, false, false, false, false, false, false, false] rfl rfl (any_of HT_.out (by kernel_rfl)) (fun _ _ _ h => h) (Or.inl ⟨by rfl, ?_⟩) ?_ ?_
 rotate_left
 ·intro w'
  go_simp
  with_reducible rfl
 rotate_left
 ·simp only [Act.put, List.setIfInBounds_toArray, List.set_cons_zero, List.set_cons_succ, i64_w, i32_w]
  rfl
 refine take_ (i := 13) (N := some 19) (v := ?_) (a' := ?_) #[true, true, true, true, true, true, true, true, true, true, true, true, true, true, false, false, false, false, false, false, false, false, false, false, false, false, false, false] rfl rfl (take_ofW HT_.out HW_.out (by kernel_rfl)) (fun _ _ _ h => h) (Or.inl ⟨by rfl, ?_⟩) hHeld ?_ ?_
 rotate_left
 ·rintro w' ⟨s0, s1, s2, s3, s4, s5, s6, s7, s8⟩
  have y0 : w'.cell? ⟨g, 0, none⟩ = some (.slice (some ⟨ga, 0, none⟩) n c) := (blk_cell s0 0).trans rfl
  go_simp
  with_reducible rfl
 rotate_left
 ·simp only [Act.put, List.setIfInBounds_toArray, List.set_cons_zero, List.set_cons_succ, i64_w, i32_w]
  rfl
 refine pure_ (i := 14) (N := some 20) (v := ?_) (a' := ?_) #[true, true, true, true, true, true, true, true, true, true, true, true, true, true, true, false, false, false, false, false, false, false, false, false, false, false, false, false] rfl rfl (any_of HT_.out (by kernel_rfl)) (fun _ _ _ h => h) (Or.inl ⟨by rfl, ?_⟩) ?_ ?_
 rotate_left
 ·intro w'
  go_simp
  with_reducible rfl
 rotate_left
 ·simp only [Act.put, List.setIfInBounds_toArray, List.set_cons_zero, List.set_cons_succ, i64_w, i32_w]
  rfl
 refine pure_ (i := 15) (N := some 21) (v := ?_) (a' := ?_) #[true, true, true, true, true, true, true, true, true, true, true, true, true, true, true, true, false, false, false, false, false, false, false, false, false, false, false, false] rfl rfl (any_of HT_.out (by kernel_rfl)) (fun _ _ _ h => h) (Or.inl ⟨by rfl, ?_⟩) ?_ ?_
 rotate_left
 ·intro w'
  go_simp
  with_reducible rfl
 rotate_left
 ·simp only [Act.put, List.setIfInBounds_toArray, List.set_cons_zero, List.set_cons_succ, i64_w, i32_w]
  rfl
 refine take_ (i := 16) (N := some 22) (v := ?_) (a' := ?_) #[true, true, true, true, true, true, true, true, true, true, true, true, true, true, true, true, true, false, false, false, false, false, false, false, false, false, false, false] rfl rfl (take_ofW HT_.out HW_.out (by kernel_rfl)) (fun _ _ _ h => h) (Or.inl ⟨by rfl, ?_⟩) hHeld ?_ ?_
 rotate_left
 ·rintro w' ⟨s0, s1, s2, s3, s4, s5, s6, s7, s8⟩
  go_simp
  with_reducible rfl
 rotate_left
 ·simp only [Act.put, List.setIfInBounds_toArray, List.set_cons_zero, List.set_cons_succ, i64_w, i32_w]
  rfl
 refine pure_ (i := 17) (N := some 23) (v := ?_) (a' := ?_) #[true, true, true, true, true, true, true, true, true, true, true, true, true, true, true, true, true, true, false, false, false, false, false, false, false, false, false, false] rfl rfl (any_of HT_.out (by kernel_rfl)) (fun _ _ _ h => h) (Or.inl ⟨by rfl, ?_⟩) ?_ ?_
 rotate_left
 ·intro w'
  go_simp
  with_reducible rfl
 rotate_left
 ·simp only [Act.put, List.setIfInBounds_toArray, List.set_cons_zero, List.set_cons_succ, i64_w, i32_w]
  rfl
 refine pure_ (i := 18) (N := some 24) (v := ?_) (a' := ?_) #[true, true, true, true, true, true, true, true, true, true, true, true, true, true, true, true, true, true, true, false, false, false, false, false, false, false, false, false] rfl rfl (any_of HT_.out (by kernel_rfl)) (fun _ _ _ h => h) (Or.inl ⟨by rfl, ?_⟩) ?_ ?_
 rotate_left
 ·intro w'
  go_simp
  with_reducible rfl
 rotate_left
 ·simp only [Act.put, List.setIfInBounds_toArray, List.set_cons_zero, List.set_cons_succ, i64_w, i32_w]
  rfl
 refine pure_ (i := 19) (N := some 25) (v := ?_) (a' := ?_) #[true, true, true, true, true, true, true, true, true, true, true, true, true, true, true, true, true, true, true, true, false, false, false, false, false, false, false, false] rfl rfl (any_of HT_.out (by kernel_rfl)) (fun _ _ _ h => h) (Or.inl ⟨by rfl, ?_⟩) ?_ ?_
 rotate_left
 ·intro w'
  go_simp
  with_reducible rfl
 rotate_left
 ·simp only [Act.put, List.setIfInBounds_toArray, List.set_cons_zero, List.set_cons_succ, i64_w, i32_w]
  rfl
 refine take_ (i := 20) (N := some 26) (v := ?_) (a' := ?_) #[true, true, true, true, true, true, true, true, true, true, true, true, true, true, true, true, true, true, true, true, true, false, false, false, false, false, false, false] rfl rfl (take_ofW HT_.out HW_.out (by kernel_rfl)) (fun _ _ _ h => h) (Or.inl ⟨by rfl, ?_⟩) hHeld ?_ ?_
 rotate_left
 ·rintro w' ⟨s0, s1, s2, s3, s4, s5, s6, s7, s8⟩
  have y0 : w'.cell? ⟨g, 0, none⟩ = some (.slice (some ⟨ga, 0, none⟩) n c) := (blk_cell s0 0).trans rfl
  go_simp
  with_reducible rfl
 rotate_left
 ·simp only [Act.put, List.setIfInBounds_toArray, List.set_cons_zero, List.set_cons_succ, i64_w, i32_w]
  rfl
 refine pure_ (i := 21) (N := some 27) (v := ?_) (a' := ?_) #[true, true, true, true, true, true, true, true, true, true, true, true, true, true, true, true, true, true, true, true, true, true, false, false, false, false, false, false] rfl rfl (any_of HT_.out (by kernel_rfl)) (fun _ _ _ h => h) (Or.inl ⟨by rfl, ?_⟩) ?_ ?_
 rotate_left
 ·intro w'
  go_simp
  with_reducible rfl
 rotate_left
 ·simp only [Act.put, List.setIfInBounds_toArray, List.set_cons_zero, List.set_cons_succ, i64_w, i32_w]
  rfl
 refine pure_ (i := 22) (N := some 28) (v := ?_) (a' := ?_) #[true, true, true, true, true, true, true, true, true, true, true, true, true, true, true, true, true, true, true, true, true, true, true, false, false, false, false, false] rfl rfl (any_of HT_.out (by kernel_rfl)) (fun _ _ _ h => h) (Or.inl ⟨by rfl, ?_⟩) ?_ ?_
 rotate_left
 ·intro w'
  go_simp
  with_reducible rfl
 rotate_left
 ·simp only [Act.put, List.setIfInBounds_toArray, List.set_cons_zero, List.set_cons_succ, i64_w, i32_w]
  rfl
 refine take_ (i := 23) (N := some 29) (v := ?_) (a' := ?_) #[true, true, true, true, true, true, true, true, true, true, true, true, true, true, true, true, true, true, true, true, true, true, true, true, false, false, false, false] rfl rfl (take_ofW HT_.out HW_.out (by kernel_rfl)) (fun _ _ _ h => h) (Or.inl ⟨by rfl, ?_⟩) hHeld ?_ ?_
 rotate_left
 ·rintro w' ⟨s0, s1, s2, s3, s4, s5, s6, s7, s8⟩
  go_simp
  with_reducible rfl
 rotate_left
 ·simp only [Act.put, List.setIfInBounds_toArray, List.set_cons_zero, List.set_cons_succ, i64_w, i32_w]
  rfl
 refine pure_ (i := 24) (N := some 30) (v := ?_) (a' := ?_) #[true, true, true, true, true, true, true, true, true, true, true, true, true, true, true, true, true, true, true, true, true, true, true, true, true, false, false, false] rfl rfl (any_of HT_.out (by kernel_rfl)) (fun _ _ _ h => h) (Or.inl ⟨by rfl, ?_⟩) ?_ ?_
 rotate_left
 ·intro w'
  go_simp
  with_reducible rfl
 rotate_left
 ·simp only [Act.put, List.setIfInBounds_toArray, List.set_cons_zero, List.set_cons_succ, i64_w, i32_w]
  rfl
 refine last_ (i := 25) (N := none) #[true, true, true, true, true, true, true, true, true, true, true, true, true, true, true, true, true, true, true, true, true, true, true, true, true, true, false, false] rfl rfl (one_of HT_.out (by kernel_rfl)) (by decide) (fun K hK => ?_)
 (refine skip_ (w1 := ?_) (by rfl) rfl ?_ ?_; rotate_left; · (go_simp; rfl))
 refine hK.out _ _ ?_
 clear hK K
 try simp only [Act.put, List.setIfInBounds_toArray, List.set_cons_zero, List.set_cons_succ, i64_w, i32_w]
 obtain ⟨W2, hW2⟩ : ∃ W2, W2 = ((((W1.setCell ⟨ga, i * 4, none⟩ (.int .i64 y.at_)).setCell ⟨ga, i * 4 + 1, none⟩ (.int .i64 y.urg)).setCell ⟨ga, i * 4 + 2, none⟩ (.int .i64 y.id)).setCell ⟨ga, i * 4 + 3, none⟩ (.int .i64 y.no)) := ⟨_, rfl⟩
 rw [← hW2]
 have hp2 := T4_chain H1.out.row i HI.out y
 rw [← hW2] at hp2
 have H2 : Aside0 (HT W W2 g fn (.slice (some ⟨ga, 0, none⟩) n c) (l.set i y)) := ⟨ht_grown H1.out hp2.1 hp2.2 (ht_belrow H1.out hp2.2)⟩
 have HS2 : Aside0 (Step w W2 g (.slice (some ⟨ga, 0, none⟩) n c) (.slice (some ⟨ga, 0, none⟩) n c)) := ⟨(Step.of_below HB1.out _ _).trans ⟨KeepBut.of_grown hp2.2 g, .inl rfl⟩⟩
 clear hW2 hp2 hHeld c0 c1 c2 c3 z0 z1 z2 z3
 obtain ⟨d0, d1, d2, d3, dz⟩ := T4_cell H2.out.row k HK2.out
 have z0 : W2.frozen? ⟨ga, k * 4, none⟩ = false := dz 0
 have z1 := dz 1
 have z2 := dz 2
 have z3 := dz 3
 refine pure_ (i := 26) (N := some 31) (v := ?_) (a' := ?_) #[true, true, true, true, true, true, true, true, true, true, true, true, true, true, true, true, true, true, true, true, true, true, true, true, true, true, true, false] rfl rfl (any_of HT_.out (by kernel_rfl)) (fun _ _ _ h => h) (Or.inl ⟨by rfl, ?_⟩) ?_ ?_
 rotate_left
 ·intro w'
  go_simp
  with_reducible rfl
 rotate_left
 ·simp only [Act.put, List.setIfInBounds_toArray, List.set_cons_zero, List.set_cons_succ, i64_w, i32_w]
  rfl
 refine last_ (i := 27) (N := none) #[true, true, true, true, true, true, true, true, true, true, true, true, true, true, true, true, true, true, true, true, true, true, true, true, true, true, true, true] rfl rfl (one_of HT_.out (by kernel_rfl)) (by decide) (fun K hK => ?_)
 (refine skip_ (w1 := ?_) (by rfl) rfl ?_ ?_; rotate_left; · (go_simp; rfl))
 refine hK.out _ _ ?_
 clear hK K
 try simp only [Act.put, List.setIfInBounds_toArray, List.set_cons_zero, List.set_cons_succ, i64_w, i32_w]
 obtain ⟨W3, hW3⟩ : ∃ W3, W3 = ((((W2.setCell ⟨ga, k * 4, none⟩ (.int .i64 x.at_)).setCell ⟨ga, k * 4 + 1, none⟩ (.int .i64 x.urg)).setCell ⟨ga, k * 4 + 2, none⟩ (.int .i64 x.id)).setCell ⟨ga, k * 4 + 3, none⟩ (.int .i64 x.no)) := ⟨_, rfl⟩
 rw [← hW3]
 have hp3 := T4_chain H2.out.row k HK2.out x
 rw [← hW3] at hp3
 have H3 : Aside0 (HT W W3 g fn (.slice (some ⟨ga, 0, none⟩) n c) (swap t0 l i k)) := ⟨by rw [HSW.out]; exact ht_grown H2.out hp3.1 hp3.2 (ht_belrow H2.out hp3.2)⟩
 have HS3 : Aside0 (Step w W3 g (.slice (some ⟨ga, 0, none⟩) n c) (.slice (some ⟨ga, 0, none⟩) n c)) := ⟨HS2.out.trans ⟨KeepBut.of_grown hp3.2 g, .inl rfl⟩⟩
 clear hW3 hp3 d0 d1 d2 d3 dz z0 z1 z2 z3
 refine done_ (done_of HT_.out (by kernel_rfl)) ?_
 go_end0
 exact ⟨rfl, H3.out, HS3.out⟩
set_option maxHeartbeats 8000000 in
set_option maxRecDepth 100000 in
theorem hpush_calls (W w : World) (g fn : Nat) (v : Value) (l : List Tk) (h : HT W w g fn v l) (x : Tk) (hlen : l.length ≤ 100000) : Calls Try.prog 53 #[.pointer (some ⟨g, 0, none⟩), .iface 61 (a4 x)] w fun e w' => e = .returned (.tuple #[]) ∧ ∃ v', HT W w' g fn v' (l ++ [x]) ∧ Step w w' g v v' := by
 have hu61 := Try.underlying61
 show Calls Try.prog 53 #[.pointer (some ⟨g, 0, none⟩), .iface 61 (.agg #[.int .i64 x.at_, .int .i64 x.urg, .int .i64 x.id, .int .i64 x.no])] w _
 have hu52 := Try.underlying52
 have hta := as61
 obtain ⟨A, c, rfl⟩ := Kd.R_slice h.row
 obtain ⟨n, hn⟩ : ∃ n, n = l.length := ⟨_, rfl⟩
 have HN := Aside0.mk hn
 rw [← hn] at h hlen ⊢
 have hd := h.drew
 have hbk := hd.blk
 clear hn
 go_enter Try.func53, Try.ntmps53
 refine start_ (n := 12) (S := fun w' => w'.heap[g]? = some (.cells #[.slice A n c, .func (.func fn) #[] #[]] 54 (0, 0))) (ds := [11]) #[false, false, false, false, false, false, false, false, false, false, false, false] (by kernel_rfl) rfl rfl hbk (fun hHeld => ?_)
 refine with_tabW rg53_0_tab rg53_0_bits (fun HT_ HW_ => ?_)
 obtain ⟨W1, hW1⟩ : ∃ W1, W1 = w.drew := ⟨_, rfl⟩
 have HB1 := Aside0.mk (show Below w.heap.size w W1 from by rw [hW1]; exact below_drew (Below.refl _ _))
 have H1 : Aside0 (HT W W1 g fn (.slice A n c) l) := ⟨by rw [hW1]; exact hd⟩
 rw [← hW1] at hHeld ⊢
 clear hd hbk hW1 h
 refine pure_ (i := 0) (N := some 4) (v := ?_) (a' := ?_) #[true, false, false, false, false, false, false, false, false, false, false, false] rfl rfl (any_of HT_.out (by kernel_rfl)) (fun _ _ _ h => h) (Or.inl ⟨by rfl, ?_⟩) ?_ ?_
 rotate_left
 ·intro w'
  go_simp
  with_reducible rfl
 rotate_left
 ·simp only [Act.put, List.setIfInBounds_toArray, List.set_cons_zero, List.set_cons_succ, i64_w, i32_w]
  rfl
 refine pure_ (i := 1) (N := some 5) (v := ?_) (a' := ?_) #[true, true, false, false, false, false, false, false, false, false, false, false] rfl rfl (any_of HT_.out (by kernel_rfl)) (fun _ _ _ h => h) (Or.inl ⟨by rfl, ?_⟩) ?_ ?_
 rotate_left
 ·intro w'
  go_simp
  with_reducible rfl
 rotate_left
 ·simp only [Act.put, List.setIfInBounds_toArray, List.set_cons_zero, List.set_cons_succ, i64_w, i32_w]
  rfl
 refine pure_ (i := 2) (N := some 6) (v := ?_) (a' := ?_) #[true, true, true, false, false, false, false, false, false, false, false, false] rfl rfl (any_of HT_.out (by kernel_rfl)) (fun _ _ _ h => h) (Or.inl ⟨by rfl, ?_⟩) ?_ ?_
 rotate_left
 ·intro w'
  go_simp
  with_reducible rfl
 rotate_left
 ·simp only [Act.put, List.setIfInBounds_toArray, List.set_cons_zero, List.set_cons_succ, i64_w, i32_w]
  rfl
 refine pure_ (i := 3) (N := some 7) (v := ?_) (a' := ?_) #[true, true, true, true, false, false, false, false, false, false, false, false] rfl rfl (any_of HT_.out (by kernel_rfl)) (fun _ _ _ h => h) (Or.inl ⟨by rfl, ?_⟩) ?_ ?_
 rotate_left
 ·intro w'
  go_simp
  with_reducible rfl
 rotate_left
 ·simp only [Act.put, List.setIfInBounds_toArray, List.set_cons_zero, List.set_cons_succ, i64_w, i32_w]
  rfl
 refine take_ (i := 4) (N := some 8) (v := ?_) (a' := ?_) #[true, true, true, true, true, false, false, false, false, false, false, false] rfl rfl (take_ofW HT_.out HW_.out (by kernel_rfl)) (fun _ _ _ h => h) (Or.inl ⟨by rfl, ?_⟩) hHeld ?_ ?_
 rotate_left
 ·rintro w' s0
  have y0 : w'.cell? ⟨g, 0, none⟩ = some (.slice A n c) := (blk_cell s0 0).trans rfl
  go_simp
  with_reducible rfl
 rotate_left
 ·simp only [Act.put, List.setIfInBounds_toArray, List.set_cons_zero, List.set_cons_succ, i64_w, i32_w]
  rfl
 refine pure_ (i := 5) (N := some 9) (v := ?_) (a' := ?_) #[true, true, true, true, true, true, false, false, false, false, false, false] rfl rfl (any_of HT_.out (by kernel_rfl)) (fun _ _ _ h => h) (Or.inl ⟨by rfl, ?_⟩) ?_ ?_
 rotate_left
 ·intro w'
  go_simp
  with_reducible rfl
 rotate_left
 ·simp only [Act.put, List.setIfInBounds_toArray, List.set_cons_zero, List.set_cons_succ, i64_w, i32_w]
  rfl
 refine pure_ (i := 6) (N := some 10) (v := ?_) (a' := ?_) #[true, true, true, true, true, true, true, false, false, false, false, false] rfl rfl (any_of HT_.out (by kernel_rfl)) (fun _ _ _ h => h) (Or.inl ⟨by rfl, ?_⟩) ?_ ?_
 rotate_left
 ·intro w'
  go_simp
  with_reducible rfl
 rotate_left
 ·simp only [Act.put, List.setIfInBounds_toArray, List.set_cons_zero, List.set_cons_succ, i64_w, i32_w]
  rfl
 refine one_ (i := 7) (N := some 11) #[true, true, true, true, true, true, true, true, false, false, false, false] rfl rfl (one_of HT_.out (by kernel_rfl)) (by decide) (fun K hK => ?_)
 (refine value_ (w1 := ?_) (v := ?_) (by rfl) rfl ?_ ?_; rotate_left 2; · (go_simp; constructor; rfl; rfl))
 refine hK.out _ _ (blk_alloc H1.out.blk _) (fun hHeld => ?_)
 clear hK K
 try simp only [Act.put, List.setIfInBounds_toArray, List.set_cons_zero, List.set_cons_succ, i64_w, i32_w]
 refine one_ (i := 8) (N := some 12) #[true, true, true, true, true, true, true, true, true, false, false, false] rfl rfl (one_of HT_.out (by kernel_rfl)) (by decide) (fun K hK => ?_)
 (refine Kd.R_append_step kT (w0 := W) W.heap.size (by rfl) (.tmp 8) (.tmp 11) 52 61 (.agg #[(.int .i64 0), (.int .i64 0), (.int .i64 0), (.int .i64 0)]) 32 rfl Try.underlying52 info61 rfl (Nat.succ_pos 3) (by omega) (.slice A n c) l x [.int .i64 x.at_, .int .i64 x.urg, .int .i64 x.id, .int .i64 x.no] (fun _ => True) (fun _ => False) rfl rfl ?aP (fun _ hk => hk.elim) (fun _ _ => trivial) H1.out.row H1.out.bel H1.out.bel.size (by rw [← HN.out]; omega) ?_; (case aP => exact T4_M _ _ _ _); intro v8 w8 ho hb hg hat; have HR8 := Aside0.mk ho; have HB8 := Aside0.mk hb; have HG8 := Aside0.mk hg; have HAT8 := Aside0.mk hat; have hx8 := (hg.block g (blk_lt H1.out.blk) (Kd.R_ne H1.out.row H1.out.blk (by decide))).trans H1.out.blk; have HX8 := Aside0.mk hx8; obtain ⟨A8, c8, hv8⟩ := Kd.R_slice ho; obtain ⟨n8, hn8⟩ : ∃ m : Nat, m = (l ++ [x]).length := ⟨_, rfl⟩; rw [← hn8] at hv8; subst hv8; clear hn8 ho hb hg hat)
 refine hK.out _ _ hx8 (fun hHeld => ?_)
 clear hK K
 refine norm_ (a' := ?_) ?_ ?_
 rotate_left
 ·show Act.put _ (some 12) _ = _
  simp only [Act.put, List.setIfInBounds_toArray, List.set_cons_zero, List.set_cons_succ, i64_w, i32_w]
  rfl
 refine pure_ (i := 9) (N := some 13) (v := ?_) (a' := ?_) #[true, true, true, true, true, true, true, true, true, true, false, false] rfl rfl (any_of HT_.out (by kernel_rfl)) (fun _ _ _ h => h) (Or.inl ⟨by rfl, ?_⟩) ?_ ?_
 rotate_left
 ·intro w'
  go_simp
  with_reducible rfl
 rotate_left
 ·simp only [Act.put, List.setIfInBounds_toArray, List.set_cons_zero, List.set_cons_succ, i64_w, i32_w]
  rfl
 refine pure_ (i := 10) (N := some 14) (v := ?_) (a' := ?_) #[true, true, true, true, true, true, true, true, true, true, true, false] rfl rfl (any_of HT_.out (by kernel_rfl)) (fun _ _ _ h => h) (Or.inl ⟨by rfl, ?_⟩) ?_ ?_
 rotate_left
 ·intro w'
  go_simp
  with_reducible rfl
 rotate_left
 ·simp only [Act.put, List.setIfInBounds_toArray, List.set_cons_zero, List.set_cons_succ, i64_w, i32_w]
  rfl
 have k0 : w8.cell? ⟨g, 0, none⟩ = some (.slice A n c) := (blk_cell HX8.out 0).trans rfl
 have z0 := blk_frozen HX8.out 0
 refine last_ (i := 11) (N := none) #[true, true, true, true, true, true, true, true, true, true, true, true] rfl rfl (one_of HT_.out (by kernel_rfl)) (by decide) (fun K hK => ?_)
 (refine skip_ (w1 := ?_) (by rfl) rfl ?_ ?_; rotate_left; · (go_simp; rfl))
 refine hK.out _ _ ?_
 clear hK K
 try simp only [Act.put, List.setIfInBounds_toArray, List.set_cons_zero, List.set_cons_succ, i64_w, i32_w]
 refine done_ (done_of HT_.out (by kernel_rfl)) ?_
 have HT9 : Aside0 (HT W (w8.setCell ⟨g, 0, none⟩ (.slice A8 n8 c8)) g fn (.slice A8 n8 c8) (l ++ [x]) ∧ Step w (w8.setCell ⟨g, 0, none⟩ (.slice A8 n8 c8)) g (.slice A n c) (.slice A8 n8 c8)) := ⟨by
  have hg9 := due_grown w8 g 0 (.slice A8 n8 c8)
  have hne : some g ≠ (Value.slice A8 n8 c8).ownBlock := Kd.R_ne HR8.out HX8.out (by decide)
  refine ⟨⟨blk_set HX8.out 0 _, H1.out.ge, Kd.R_grown1 HR8.out rfl hg9 hne, below_set HB8.out H1.out.ge⟩, (Step.of_below HB1.out g _).trans ⟨(KeepBut.of_grown HG8.out g).set_ 0 _, HAT8.out⟩⟩⟩
 clear hHeld k0 z0 hx8
 generalize w8.setCell ⟨g, 0, none⟩ (.slice A8 n8 c8) = W9 at HT9 ⊢
 go_end0
 exact ⟨rfl, _, HT9.out.1, HT9.out.2⟩
set_option maxHeartbeats 8000000 in
set_option maxRecDepth 100000 in
theorem hpop_calls (W w : World) (g fn : Nat) (v : Value) (l : List Tk) (h : HT W w g fn v l) (m : Nat) (hm : l.length = m + 1) (hlen : l.length ≤ 100000) : Calls Try.prog 52 #[.pointer (some ⟨g, 0, none⟩)] w fun e w' => e = .returned (.iface 61 (a4 (l.getD m t0))) ∧ ∃ v', HT W w' g fn v' (l.take m) ∧ Step w w' g v v' := by
 have hu61 := Try.underlying61
 have hu52 := Try.underlying52
 obtain ⟨ga, c, rfl⟩ := ht_form h (by omega)
 obtain ⟨n, hn⟩ : ∃ n, n = l.length := ⟨_, rfl⟩
 rw [← hn] at h hm hlen ⊢
 have HN := Aside0.mk hn
 have hbk := h.blk
 have hnc : n ≤ c := (Kd.R_reads' h.row).2.1
 obtain ⟨c0, c1, c2, c3, _⟩ := T4_cell h.row m (by omega)
 obtain ⟨x, hx⟩ : ∃ x, x = l.getD m t0 := ⟨_, rfl⟩
 rw [← hx] at c0 c1 c2 c3 ⊢
 have f0 : w.cell? ⟨g, 0, none⟩ = some (.slice (some ⟨ga, 0, none⟩) n c) := (blk_cell hbk 0).trans rfl
 have hw : wrap64 ((n : Int) - 1) = (m : Int) := by unfold wrap64; omega
 have hw' : IntKind.i64.wrap ((n : Int) - 1) = (m : Int) := by rw [IntKind.wrap_i64]; omega
 have hw2 : (n : Int) - 1 = (m : Int) := by omega
 have b1 : decide ((m : Int) < (n : Int)) = true := decide_eq_true (by omega)
 have b2 : decide (m < n) = true := decide_eq_true (by omega)
 have p1 : (m ≤ c) = True := eq_true (by omega)
 have HH := Aside0.mk h
 have HM := Aside0.mk hm
 have HLT := Aside0.mk (show m < n by omega)
 clear hn hx h hbk hm
 go_enter Try.func52, Try.ntmps52
 go_upto_region 3 with ((with_reducible refine gate_dst (N := 4) rfl ?_); refine box_event ?hg (N := 4) ?hd (cs := #[.int .i64 0, .int .i64 0, .int .i64 0, .int .i64 0]) (t := 61) ?hr ?_; (case hd => rfl); (case hg => rfl); (case hr => first | (go_simp; done) | (go_simp; rfl)); intro gb hgb wb hbox hb; have BX := Aside0.mk hbox; have HHb := Aside0.mk (HH.out.below hb); have HGE := Aside0.mk (show w.heap.size ≤ gb from Nat.le_of_eq hgb.symm); have HBb := Aside0.mk hb; have hz0 := (blk_cell hbox 0).trans rfl; have hzf0 := blk_frozen hbox 0; have hz1 := (blk_cell hbox 1).trans rfl; have hzf1 := blk_frozen hbox 1; have hz2 := (blk_cell hbox 2).trans rfl; have hzf2 := blk_frozen hbox 2; have hz3 := (blk_cell hbox 3).trans rfl; have hzf3 := blk_frozen hbox 3; clear hgb hbox hb)
 have HB3 : Aside0 (Below w.heap.size w ((((wb.setCell ⟨gb, 0, none⟩ (.int .i64 x.at_)).setCell ⟨gb, 1, none⟩ (.int .i64 x.urg)).setCell ⟨gb, 2, none⟩ (.int .i64 x.id)).setCell ⟨gb, 3, none⟩ (.int .i64 x.no))) := ⟨below_set (below_set (below_set (below_set HBb.out HGE.out) HGE.out) HGE.out) HGE.out⟩
 have BX3 : Aside0 ((((((wb.setCell ⟨gb, 0, none⟩ (.int .i64 x.at_)).setCell ⟨gb, 1, none⟩ (.int .i64 x.urg)).setCell ⟨gb, 2, none⟩ (.int .i64 x.id)).setCell ⟨gb, 3, none⟩ (.int .i64 x.no)) : World).heap[gb]? = some (.cells #[.int .i64 x.at_, .int .i64 x.urg, .int .i64 x.id, .int .i64 x.no] 61 (0, 0))) := ⟨by
  have := blk_set (blk_set (blk_set (blk_set BX.out 0 (.int .i64 x.at_)) 1 (.int .i64 x.urg)) 2 (.int .i64 x.id)) 3 (.int .i64 x.no)
  simpa using this⟩
 clear hz0 hzf0 hz1 hzf1 hz2 hzf2 hz3 hzf3 c0 c1 c2 c3 f0
 generalize ((((wb.setCell ⟨gb, 0, none⟩ (.int .i64 x.at_)).setCell ⟨gb, 1, none⟩ (.int .i64 x.urg)).setCell ⟨gb, 2, none⟩ (.int .i64 x.id)).setCell ⟨gb, 3, none⟩ (.int .i64 x.no)) = W3 at HB3 BX3 ⊢
 have HH3 := Aside0.mk (HH.out.below HB3.out)
 have f0 : W3.cell? ⟨g, 0, none⟩ = some (.slice (some ⟨ga, 0, none⟩) n c) := (blk_cell HH3.out.blk 0).trans rfl
 have z0 := blk_frozen HH3.out.blk 0
 go_wp2_with ((with_reducible refine gate_store (t := 52) (p := 26) rfl ?_); refine store_event (t := 52) (p := 26) (v := ?vo1) (w1 := (W3.setCell ⟨g, 0, none⟩ (.slice (some ⟨ga, 0, none⟩) m c))) ?hg1 ?ho1 ?hn1 ?hr1 ?_; (case ho1 => rfl); (case hg1 => rfl); (case hn1 => rfl); (case hr1 => first | (go_simp; done) | (go_simp; rfl)); intro W4 hw; have BX4 := blk_far BX3.out (p := ⟨g, 0, none⟩) (blk_ne BX3.out HH3.out.blk (by decide)) (.slice (some ⟨ga, 0, none⟩) m c); rw [← hw] at BX4; have y0 : W4.cell? ⟨gb, 0, none⟩ = some (.int .i64 x.at_) := (blk_cell BX4 0).trans rfl; have y1 : W4.cell? ⟨gb, 1, none⟩ = some (.int .i64 x.urg) := (blk_cell BX4 1).trans rfl; have y2 : W4.cell? ⟨gb, 2, none⟩ = some (.int .i64 x.id) := (blk_cell BX4 2).trans rfl; have y3 : W4.cell? ⟨gb, 3, none⟩ = some (.int .i64 x.no) := (blk_cell BX4 3).trans rfl; have HW := Aside0.mk hw; clear hw BX4 f0 z0)
 have hg9 := due_grown W3 g 0 (.slice (some ⟨ga, 0, none⟩) m c)
 have hne : some g ≠ (Value.slice (some ⟨ga, 0, none⟩) n c).ownBlock := Kd.R_ne HH3.out.row HH3.out.blk (by decide)
 have hr9 := Kd.R_take (m := m) (Kd.R_grown1 HH3.out.row rfl hg9 hne) (by have := HN.out; have := HLT.out; omega)
 have hk9 : KeepBut W3 (W3.setCell ⟨g, 0, none⟩ (.slice (some ⟨ga, 0, none⟩) m c)) g (Value.slice (some ⟨ga, 0, none⟩) n c).ownBlock := (KeepBut.refl _ _ _).set_ 0 _
 have hb9 := blk_set HH3.out.blk 0 (.slice (some ⟨ga, 0, none⟩) m c)
 have hl9 := below_set (j := 0) (v := .slice (some ⟨ga, 0, none⟩) m c) HH3.out.bel HH3.out.ge
 rw [← HW.out] at hr9 hk9 hb9 hl9
 exact bodyPost_ret (v := .iface 61 (.agg #[.int .i64 x.at_, .int .i64 x.urg, .int .i64 x.id, .int .i64 x.no])) (by simp [results, Try.results52, go_sem]) rfl ⟨rfl, _, ⟨hb9, HH3.out.ge, hr9, hl9⟩, (Step.of_below HB3.out g _).trans ⟨hk9, .inl rfl⟩⟩
end Go.Proofs.Ytacceeefcelkhaa.Al

/- heap.up and heap.down. -/
namespace Go.Proofs.Ytacceeefcelkhaa.Al
open Go.RowKit Go.Proofs.Ytacceeefcelkhaa.DueHeap Go.Proofs.Ytacceeefcelkhaa.DueSpec Go.Proofs.YtacceeefcelkhaaW.PrintWords Go.Proofs.YtacceeefcelkhaaW.PrintLast Go.Proofs.YtacceeefcelkhaaW.PrintMore
set_option linter.unusedVariables false
set_option linter.unusedSimpArgs false
theorem m_Less (v : Value) (w : World) : Sem.run Try.prog (method 193 50 v "Less") w = .ok (51, v) w := by kernel_rfl
theorem m_Swap (v : Value) (w : World) : Sem.run Try.prog (method 193 50 v "Swap") w = .ok (54, v) w := by kernel_rfl
theorem m_Push (v : Value) (w : World) : Sem.run Try.prog (method 193 50 v "Push") w = .ok (53, v) w := by kernel_rfl
theorem m_Pop (v : Value) (w : World) : Sem.run Try.prog (method 193 50 v "Pop") w = .ok (52, v) w := by kernel_rfl
theorem m_Len (v : Value) (w : World) : Sem.run Try.prog (method 193 50 v "Len") w = .ok (27, v) w := by kernel_rfl
/-- What a call on a heap leaves: its tasks in another order. -/
structure Moved (W w w' : World) (g fn : Nat) (v : Value) (l l' : List Tk) : Prop where
 ht : HT W w' g fn v l'
 st : Step w w' g v v
 perm : l'.Perm l
theorem Moved.len {W w w' : World} {g fn : Nat} {v : Value} {l l' : List Tk} (h : Moved W w w' g fn v l l') : l'.length = l.length := h.perm.length_eq
theorem Moved.below {W w w1 w2 : World} {g fn : Nat} {v : Value} {l l' : List Tk} (h : Moved W w w1 g fn v l l') (hb : Below w1.heap.size w1 w2) : Moved W w w2 g fn v l l' := ⟨h.ht.below hb, h.st.trans (Step.of_below hb _ _), h.perm⟩
theorem Moved.swap {W w w1 w2 : World} {g fn i k : Nat} {v : Value} {l l' : List Tk} (h : Moved W w w1 g fn v l l') (hi : i < l'.length) (hk : k < l'.length) (h2 : HT W w2 g fn v (DueHeap.swap t0 l' i k)) (hs : Step w1 w2 g v v) : Moved W w w2 g fn v l (DueHeap.swap t0 l' i k) := ⟨h2, h.st.trans hs, (swap_perm hi hk).trans h.perm⟩
/-- What stands from a place on is as it was. -/
def Tail (nn : Nat) (l l' : List Tk) : Prop := ∀ k, nn ≤ k → l'.getD k t0 = l.getD k t0
theorem Tail.refl (nn : Nat) (l : List Tk) : Tail nn l l := fun _ _ => rfl
theorem Tail.swap {nn i k : Nat} {l l' : List Tk} (h : Tail nn l l') (hi : i < nn) (hk : k < nn) (hl : nn ≤ l'.length) : Tail nn l (DueHeap.swap t0 l' i k) := fun m hm => by
 rw [swap_get (by omega) (by omega), if_neg (by omega), if_neg (by omega)]
 exact h m hm
set_option maxHeartbeats 8000000 in
set_option maxRecDepth 100000 in
theorem up_calls (W w : World) (g fn : Nat) (hfn : fn = 23 ∨ fn = 24) (v : Value) (l : List Tk) (h : HT W w g fn v l) (j nn : Nat) (hj : j < nn) (hnn : nn ≤ l.length) (hlen : l.length ≤ 100000) (hu : UpInv (LE fn) t0 nn l j) : Calls Try.prog 32 #[.iface 50 (.pointer (some ⟨g, 0, none⟩)), .int .i64 j] w fun e w' => e = .returned (.tuple #[]) ∧ ∃ l', Moved W w w' g fn v l l' ∧ Heap (LE fn) t0 nn l' ∧ Tail nn l l' := by
 have mL := m_Less
 have mS := m_Swap
 have HM0 := Aside0.mk (Moved.mk h (Step.refl w g v) (List.Perm.refl l))
 have HU0 := Aside0.mk hu
 have HNN := Aside0.mk hnn
 have hlen : nn ≤ 100000 := by omega
 have HT0 := Aside0.mk (Tail.refl nn l)
 clear h hu hnn
 go_enter Try.func32, Try.ntmps32
 go_wp2
 go_loopw [1] (fun v1 wr => ∃ (j : Nat) (l' : List Tk), v1 = .int .i64 j ∧ j < nn ∧ Aside0 (Moved W w wr g fn v l l') ∧ Aside0 (UpInv (LE fn) t0 nn l' j) ∧ Aside0 (Tail nn l l')) (fun v1 _ => (intOf v1).toNat)
 case atStart => exact ⟨j, l, rfl, hj, HM0, HU0, HT0⟩
 case round =>
  clear hj
  obtain ⟨j, l', rfl, hj, HM, HU, HT⟩ := hrel
  clear HM0 HU0 HT0
  have HJ := Aside0.mk hj
  have hq1 : Int.tdiv ((j : Int) - 1) 2 = ((par j : Nat) : Int) := by
   unfold par
   by_cases e : j = 0
   ·subst e; decide
   ·rw [Int.tdiv_eq_ediv_of_nonneg (by omega)]; omega
  have hq2 : wrap64 ((j : Int) - 1) = (j : Int) - 1 := by unfold wrap64; omega
  have hq2' : IntKind.i64.wrap ((j : Int) - 1) = (j : Int) - 1 := by rw [IntKind.wrap_i64]; omega
  have hpb : par j ≤ j := by unfold par; omega
  have hq3 : wrap64 ((par j : Nat) : Int) = ((par j : Nat) : Int) := by unfold wrap64; omega
  have hq3' : IntKind.i64.wrap ((par j : Nat) : Int) = ((par j : Nat) : Int) := by rw [IntKind.wrap_i64]; omega
  by_cases h0 : j = 0
  ·subst h0
   have e1 : (((par 0 : Nat) : Int) == ((0 : Nat) : Int)) = true := by decide
   go_wp2
   go_end0
   exact ⟨rfl, l', HM.out, HU.out.done (.inl rfl), HT.out⟩
  ·obtain ⟨p, hp⟩ : ∃ p, p = par j := ⟨_, rfl⟩
   have hlt : p < j := by rw [hp]; exact par_lt (by omega)
   rw [← hp] at hq1 hpb hq3 hq3'
   have e1 : ((p : Int) == (j : Int)) = false := by rw [beq_eq_false_iff_ne]; omega
   have HP := Aside0.mk hp
   have HPL := Aside0.mk hlt
   have hl : nn ≤ l'.length := by rw [HM.out.len]; exact HNN.out
   have HL' := Aside0.mk hl
   clear hp hpb h0 hl
   by_cases hc : LT fn (l'.getD j t0) (l'.getD p t0) = true
   ·have HC := Aside0.mk hc
    clear hc
    go_wp2_with (first | (go_at_call 51; refine (less_calls W wr g fn hfn v l' HM.out.ht j p (by have := HL'.out; have := HJ.out; omega) (by have := HL'.out; have := HJ.out; have := HPL.out; omega)).mono ?_; rintro e w1 ⟨rfl, hb⟩; rw [HC.out]; have HM1 := Aside0.mk (HM.out.below hb); clear hb) | (go_at_call 54; refine (hswap_calls W _ g fn v l' HM1.out.ht p j (by have := HL'.out; have := HJ.out; have := HPL.out; omega) (by have := HL'.out; have := HJ.out; omega)).mono ?_; rintro e w2 ⟨rfl, hT, hs⟩; have HM2 := Aside0.mk (HM1.out.swap (i := p) (k := j) (by have := HL'.out; have := HJ.out; have := HPL.out; omega) (by have := HL'.out; have := HJ.out; omega) hT hs); clear hT hs))
    go_roundw
    case rel =>
     have := HPL.out
     refine ⟨p, _, by go_num, by have := HJ.out; omega, HM2, ⟨?_⟩, ⟨HT.out.swap (by have := HJ.out; omega) HJ.out HL'.out⟩⟩
     have := HU.out.step (LE_tr fn) HL'.out HJ.out (by omega) (by rw [← HP.out]; exact LE_of fn HC.out)
     rw [← HP.out] at this
     exact this
    case measure => have := HPL.out; simp [intOf]; omega
   ·have hc' : LT fn (l'.getD j t0) (l'.getD p t0) = false := by simpa using hc
    have HC := Aside0.mk hc'
    clear hc hc'
    go_wp2_with (go_at_call 51; refine (less_calls W wr g fn hfn v l' HM.out.ht j p (by have := HL'.out; have := HJ.out; omega) (by have := HL'.out; have := HJ.out; have := HPL.out; omega)).mono ?_; rintro e w1 ⟨rfl, hb⟩; rw [HC.out]; have HM1 := Aside0.mk (HM.out.below hb); clear hb)
    go_end0
    exact ⟨rfl, l', HM1.out, HU.out.done (.inr (by rw [← HP.out]; exact HC.out)), HT.out⟩
end Go.Proofs.Ytacceeefcelkhaa.Al

/- heap.down. -/
namespace Go.Proofs.Ytacceeefcelkhaa.Al
open Go.RowKit Go.Proofs.Ytacceeefcelkhaa.DueHeap Go.Proofs.Ytacceeefcelkhaa.DueSpec Go.Proofs.YtacceeefcelkhaaW.PrintWords Go.Proofs.YtacceeefcelkhaaW.PrintLast Go.Proofs.YtacceeefcelkhaaW.PrintMore
set_option linter.unusedVariables false
set_option linter.unusedSimpArgs false
theorem swap_comm (d : Tk) (l : List Tk) {i k : Nat} (h : i ≠ k) : DueHeap.swap d l i k = DueHeap.swap d l k i := by
 unfold DueHeap.swap
 rw [List.set_comm _ _ h]
theorem par_kids {c i : Nat} (hc : 0 < c) (h : par c = i) : c = 2 * i + 1 ∨ c = 2 * i + 2 := by unfold par at h; omega
theorem par1 (i : Nat) : par (2 * i + 1) = i := by unfold par; omega
theorem par2 (i : Nat) : par (2 * i + 2) = i := by unfold par; omega
theorem less_cast {w : World} {g : Nat} {Q : Ending → World → Prop} {i k : Nat} {x y : Int} (h : Calls Try.prog 51 #[.pointer (some ⟨g, 0, none⟩), .int .i64 i, .int .i64 k] w Q) (hx : (i : Int) = x) (hy : (k : Int) = y) : Calls Try.prog 51 #[.pointer (some ⟨g, 0, none⟩), .int .i64 x, .int .i64 y] w Q := by
 subst hx hy
 exact h
theorem swap_cast {w : World} {g : Nat} {Q : Ending → World → Prop} {i k : Nat} {y : Int} (h : Calls Try.prog 54 #[.pointer (some ⟨g, 0, none⟩), .int .i64 i, .int .i64 k] w Q) (hy : (k : Int) = y) : Calls Try.prog 54 #[.pointer (some ⟨g, 0, none⟩), .int .i64 i, .int .i64 y] w Q := by
 subst hy
 exact h
/-- What down answers. -/
def DownOut (fn nn i0 : Nat) (l' : List Tk) (b : Bool) : Prop := (b = true → Heap (LE fn) t0 nn l') ∧ (b = false → UpInv (LE fn) t0 nn l' i0)
theorem down_out {fn nn i0 i : Nat} {l' : List Tk} (hd : DownInv (LE fn) t0 nn l' i0 i) (hc : ∀ c, 0 < c → c < nn → par c = i → LE fn (l'.getD i t0) (l'.getD c t0)) : DownOut fn nn i0 l' (decide (i0 < i)) := by
 have hge := hd.ge
 refine ⟨fun hb => ?_, fun hb => ?_⟩
 ·have : i0 < i := of_decide_eq_true hb
  exact hd.done hc (.inl (by omega))
 ·have : ¬ i0 < i := of_decide_eq_false hb
  obtain rfl : i = i0 := by omega
  exact hd.up hc
set_option maxHeartbeats 8000000 in
set_option maxRecDepth 100000 in
theorem down_calls (W w : World) (g fn : Nat) (hfn : fn = 23 ∨ fn = 24) (v : Value) (l : List Tk) (h : HT W w g fn v l) (i0 nn : Nat) (hnn : nn ≤ l.length) (hi0 : i0 ≤ nn) (hlen : l.length ≤ 100000) (hd : DownInv (LE fn) t0 nn l i0 i0) : Calls Try.prog 33 #[.iface 50 (.pointer (some ⟨g, 0, none⟩)), .int .i64 i0, .int .i64 nn] w fun e w' => ∃ b l', e = .returned (.bool b) ∧ Moved W w w' g fn v l l' ∧ DownOut fn nn i0 l' b ∧ Tail nn l l' := by
 have mL := m_Less
 have mS := m_Swap
 have HM0 := Aside0.mk (Moved.mk h (Step.refl w g v) (List.Perm.refl l))
 have HD0 := Aside0.mk hd
 have HNN := Aside0.mk hnn
 have hnb : nn ≤ 100000 := by omega
 have HT0 := Aside0.mk (Tail.refl nn l)
 clear h hd hnn hlen
 go_enter Try.func33, Try.ntmps33
 go_wp2
 go_loopw [7] (fun v7 wr => ∃ (i : Nat) (l' : List Tk), v7 = .int .i64 i ∧ i ≤ nn ∧ Aside0 (Moved W w wr g fn v l l') ∧ Aside0 (DownInv (LE fn) t0 nn l' i0 i) ∧ Aside0 (Tail nn l l')) (fun v7 _ => nn - (intOf v7).toNat)
 case atStart => exact ⟨i0, l, rfl, hi0, HM0, HD0, HT0⟩
 case round =>
  clear hi0
  obtain ⟨i, l', rfl, hi, HM, HD, HT⟩ := hrel
  clear HM0 HD0 HT0
  have hw1 : wrap64 (2 * (i : Int)) = 2 * (i : Int) := by unfold wrap64; omega
  have hw1' : IntKind.i64.wrap (2 * (i : Int)) = 2 * (i : Int) := by rw [IntKind.wrap_i64]; omega
  have hw2 : wrap64 (2 * (i : Int) + 1) = 2 * (i : Int) + 1 := by unfold wrap64; omega
  have hw2' : IntKind.i64.wrap (2 * (i : Int) + 1) = 2 * (i : Int) + 1 := by rw [IntKind.wrap_i64]; omega
  have hw3 : wrap64 (2 * (i : Int) + 1 + 1) = 2 * (i : Int) + 1 + 1 := by unfold wrap64; omega
  have hw3' : IntKind.i64.wrap (2 * (i : Int) + 1 + 1) = 2 * (i : Int) + 1 + 1 := by rw [IntKind.wrap_i64]; omega
  have HLN : Aside0 (nn ≤ l'.length) := ⟨by rw [HM.out.len]; exact HNN.out⟩
  by_cases h1 : nn ≤ 2 * i + 1
  ·have e1 : decide ((nn : Int) ≤ 2 * (i : Int) + 1) = true := decide_eq_true (by omega)
   have HO := Aside0.mk (down_out HD.out (fun c hc hcn hp => by rcases par_kids hc hp with e | e <;> omega))
   go_wp2
   go_ret
   exact ⟨_, l', rfl, HM.out, HO.out, HT.out⟩
  ·have e1 : decide ((nn : Int) ≤ 2 * (i : Int) + 1) = false := decide_eq_false (by omega)
   have e2 : decide (2 * (i : Int) + 1 < 0) = false := decide_eq_false (by omega)
   have HJ1 := Aside0.mk (show 2 * i + 1 < nn by omega)
   by_cases h2 : 2 * i + 2 < nn
   ·have e3 : decide (2 * (i : Int) + 1 + 1 < (nn : Int)) = true := decide_eq_true (by omega)
    have HJ2 := Aside0.mk h2
    by_cases c1 : LT fn (l'.getD (2 * i + 2) t0) (l'.getD (2 * i + 1) t0) = true
    ·have HC1 := Aside0.mk c1
     have HMIN : Aside0 (∀ c, 0 < c → c < nn → par c = i → LE fn (l'.getD (2 * i + 2) t0) (l'.getD c t0)) := ⟨fun c hc hcn hp => by
      rcases par_kids hc hp with rfl | rfl
      ·exact LE_of fn HC1.out
      ·exact LE_rf fn _⟩
     clear h1 h2 c1
     by_cases c2 : LT fn (l'.getD (2 * i + 2) t0) (l'.getD i t0) = true
     ·have HC2 := Aside0.mk c2
      clear c2
      go_wp2_with (first | (go_at_call 51; (with_reducible refine (less_cast (less_calls W wr g fn hfn v l' HM.out.ht (2 * i + 2) (2 * i + 1) (by have := HLN.out; have := HJ1.out; have := HJ2.out; omega) (by have := HLN.out; have := HJ1.out; have := HJ2.out; omega)) (show ((2 * i + 2 : Nat) : Int) = 2 * (i : Int) + 1 + 1 by omega) (show ((2 * i + 1 : Nat) : Int) = 2 * (i : Int) + 1 by omega)).mono ?_); rintro e w1 ⟨rfl, hb⟩; rw [HC1.out]; have HM1 := Aside0.mk (HM.out.below hb); clear hb) | (go_at_call 51; (with_reducible refine (less_cast (less_calls W w1 g fn hfn v l' HM1.out.ht (2 * i + 2) (i) (by have := HLN.out; have := HJ1.out; have := HJ2.out; omega) (by have := HLN.out; have := HJ1.out; have := HJ2.out; omega)) (show ((2 * i + 2 : Nat) : Int) = 2 * (i : Int) + 1 + 1 by omega) (show ((i : Nat) : Int) = (i : Int) by omega)).mono ?_); rintro e w2 ⟨rfl, hb⟩; rw [HC2.out]; have HM2 := Aside0.mk (HM1.out.below hb); clear hb) | (go_at_call 54; refine (swap_cast (hswap_calls W _ g fn v l' HM2.out.ht i (2 * i + 2) (by have := HLN.out; have := HJ1.out; omega) (by have := HLN.out; have := HJ2.out; omega)) (show ((2 * i + 2 : Nat) : Int) = 2 * (i : Int) + 1 + 1 by omega)).mono ?_; rintro e w3 ⟨rfl, hT, hs⟩; have HM3 := Aside0.mk (HM2.out.swap (i := i) (k := 2 * i + 2) (by have := HLN.out; have := HJ1.out; omega) (by have := HLN.out; have := HJ2.out; omega) hT hs); clear hT hs))
      go_roundw
      case rel =>
       have h3 := HJ2.out
       refine ⟨2 * i + 2, _, by go_num, by omega, HM3, ⟨?_⟩, ⟨HT.out.swap (by omega) h3 HLN.out⟩⟩
       rw [swap_comm t0 l' (show i ≠ 2 * i + 2 by omega)]
       exact HD.out.step HLN.out h3 (by omega) (par2 i) HMIN.out (LE_of fn HC2.out)
      case measure => have := HJ2.out; simp [intOf]; omega
     ·have c2' : LT fn (l'.getD (2 * i + 2) t0) (l'.getD i t0) = false := by simpa using c2
      have HC2 := Aside0.mk c2'
      have HO := Aside0.mk (down_out HD.out (fun c hc hcn hp => LE_tr fn _ _ _ (show LE fn (l'.getD i t0) (l'.getD (2 * i + 2) t0) from HC2.out) (HMIN.out c hc hcn hp)))
      clear c2 c2'
      go_wp2_with (first | (go_at_call 51; (with_reducible refine (less_cast (less_calls W wr g fn hfn v l' HM.out.ht (2 * i + 2) (2 * i + 1) (by have := HLN.out; have := HJ1.out; have := HJ2.out; omega) (by have := HLN.out; have := HJ1.out; have := HJ2.out; omega)) (show ((2 * i + 2 : Nat) : Int) = 2 * (i : Int) + 1 + 1 by omega) (show ((2 * i + 1 : Nat) : Int) = 2 * (i : Int) + 1 by omega)).mono ?_); rintro e w1 ⟨rfl, hb⟩; rw [HC1.out]; have HM1 := Aside0.mk (HM.out.below hb); clear hb) | (go_at_call 51; (with_reducible refine (less_cast (less_calls W w1 g fn hfn v l' HM1.out.ht (2 * i + 2) (i) (by have := HLN.out; have := HJ1.out; have := HJ2.out; omega) (by have := HLN.out; have := HJ1.out; have := HJ2.out; omega)) (show ((2 * i + 2 : Nat) : Int) = 2 * (i : Int) + 1 + 1 by omega) (show ((i : Nat) : Int) = (i : Int) by omega)).mono ?_); rintro e w2 ⟨rfl, hb⟩; rw [HC2.out]; have HM2 := Aside0.mk (HM1.out.below hb); clear hb))
      go_ret
      exact ⟨_, l', rfl, HM2.out, HO.out, HT.out⟩
    ·have c1' : LT fn (l'.getD (2 * i + 2) t0) (l'.getD (2 * i + 1) t0) = false := by simpa using c1
     have HC1 := Aside0.mk c1'
     have HMIN : Aside0 (∀ c, 0 < c → c < nn → par c = i → LE fn (l'.getD (2 * i + 1) t0) (l'.getD c t0)) := ⟨fun c hc hcn hp => by
      rcases par_kids hc hp with rfl | rfl
      ·exact LE_rf fn _
      ·exact HC1.out⟩
     clear h1 h2 c1 c1'
     by_cases c2 : LT fn (l'.getD (2 * i + 1) t0) (l'.getD i t0) = true
     ·have HC2 := Aside0.mk c2
      clear c2
      go_wp2_with (first | (go_at_call 51; (with_reducible refine (less_cast (less_calls W wr g fn hfn v l' HM.out.ht (2 * i + 2) (2 * i + 1) (by have := HLN.out; have := HJ1.out; have := HJ2.out; omega) (by have := HLN.out; have := HJ1.out; have := HJ2.out; omega)) (show ((2 * i + 2 : Nat) : Int) = 2 * (i : Int) + 1 + 1 by omega) (show ((2 * i + 1 : Nat) : Int) = 2 * (i : Int) + 1 by omega)).mono ?_); rintro e w1 ⟨rfl, hb⟩; rw [HC1.out]; have HM1 := Aside0.mk (HM.out.below hb); clear hb) | (go_at_call 51; (with_reducible refine (less_cast (less_calls W w1 g fn hfn v l' HM1.out.ht (2 * i + 1) (i) (by have := HLN.out; have := HJ1.out; have := HJ2.out; omega) (by have := HLN.out; have := HJ1.out; have := HJ2.out; omega)) (show ((2 * i + 1 : Nat) : Int) = 2 * (i : Int) + 1 by omega) (show ((i : Nat) : Int) = (i : Int) by omega)).mono ?_); rintro e w2 ⟨rfl, hb⟩; rw [HC2.out]; have HM2 := Aside0.mk (HM1.out.below hb); clear hb) | (go_at_call 54; refine (swap_cast (hswap_calls W _ g fn v l' HM2.out.ht i (2 * i + 1) (by have := HLN.out; have := HJ1.out; omega) (by have := HLN.out; have := HJ1.out; omega)) (show ((2 * i + 1 : Nat) : Int) = 2 * (i : Int) + 1 by omega)).mono ?_; rintro e w3 ⟨rfl, hT, hs⟩; have HM3 := Aside0.mk (HM2.out.swap (i := i) (k := 2 * i + 1) (by have := HLN.out; have := HJ1.out; omega) (by have := HLN.out; have := HJ1.out; omega) hT hs); clear hT hs))
      go_roundw
      case rel =>
       have h3 := HJ1.out
       refine ⟨2 * i + 1, _, by go_num, by omega, HM3, ⟨?_⟩, ⟨HT.out.swap (by omega) h3 HLN.out⟩⟩
       rw [swap_comm t0 l' (show i ≠ 2 * i + 1 by omega)]
       exact HD.out.step HLN.out h3 (by omega) (par1 i) HMIN.out (LE_of fn HC2.out)
      case measure => have := HJ1.out; simp [intOf]; omega
     ·have c2' : LT fn (l'.getD (2 * i + 1) t0) (l'.getD i t0) = false := by simpa using c2
      have HC2 := Aside0.mk c2'
      have HO := Aside0.mk (down_out HD.out (fun c hc hcn hp => LE_tr fn _ _ _ (show LE fn (l'.getD i t0) (l'.getD (2 * i + 1) t0) from HC2.out) (HMIN.out c hc hcn hp)))
      clear c2 c2'
      go_wp2_with (first | (go_at_call 51; (with_reducible refine (less_cast (less_calls W wr g fn hfn v l' HM.out.ht (2 * i + 2) (2 * i + 1) (by have := HLN.out; have := HJ1.out; have := HJ2.out; omega) (by have := HLN.out; have := HJ1.out; have := HJ2.out; omega)) (show ((2 * i + 2 : Nat) : Int) = 2 * (i : Int) + 1 + 1 by omega) (show ((2 * i + 1 : Nat) : Int) = 2 * (i : Int) + 1 by omega)).mono ?_); rintro e w1 ⟨rfl, hb⟩; rw [HC1.out]; have HM1 := Aside0.mk (HM.out.below hb); clear hb) | (go_at_call 51; (with_reducible refine (less_cast (less_calls W w1 g fn hfn v l' HM1.out.ht (2 * i + 1) (i) (by have := HLN.out; have := HJ1.out; have := HJ2.out; omega) (by have := HLN.out; have := HJ1.out; have := HJ2.out; omega)) (show ((2 * i + 1 : Nat) : Int) = 2 * (i : Int) + 1 by omega) (show ((i : Nat) : Int) = (i : Int) by omega)).mono ?_); rintro e w2 ⟨rfl, hb⟩; rw [HC2.out]; have HM2 := Aside0.mk (HM1.out.below hb); clear hb))
      go_ret
      exact ⟨_, l', rfl, HM2.out, HO.out, HT.out⟩
   ·have e3 : decide (2 * (i : Int) + 1 + 1 < (nn : Int)) = false := decide_eq_false (by omega)
    have HMIN : Aside0 (∀ c, 0 < c → c < nn → par c = i → LE fn (l'.getD (2 * i + 1) t0) (l'.getD c t0)) := ⟨fun c hc hcn hp => by
     rcases par_kids hc hp with rfl | rfl
     ·exact LE_rf fn _
     ·omega⟩
    clear h1 h2
    by_cases c2 : LT fn (l'.getD (2 * i + 1) t0) (l'.getD i t0) = true
    ·have HC2 := Aside0.mk c2
     clear c2
     go_wp2_with (first | (go_at_call 51; (with_reducible refine (less_cast (less_calls W wr g fn hfn v l' HM.out.ht (2 * i + 1) (i) (by have := HLN.out; have := HJ1.out;  omega) (by have := HLN.out; have := HJ1.out;  omega)) (show ((2 * i + 1 : Nat) : Int) = 2 * (i : Int) + 1 by omega) (show ((i : Nat) : Int) = (i : Int) by omega)).mono ?_); rintro e w2 ⟨rfl, hb⟩; rw [HC2.out]; have HM2 := Aside0.mk (HM.out.below hb); clear hb) | (go_at_call 54; refine (swap_cast (hswap_calls W _ g fn v l' HM2.out.ht i (2 * i + 1) (by have := HLN.out; have := HJ1.out; omega) (by have := HLN.out; have := HJ1.out; omega)) (show ((2 * i + 1 : Nat) : Int) = 2 * (i : Int) + 1 by omega)).mono ?_; rintro e w3 ⟨rfl, hT, hs⟩; have HM3 := Aside0.mk (HM2.out.swap (i := i) (k := 2 * i + 1) (by have := HLN.out; have := HJ1.out; omega) (by have := HLN.out; have := HJ1.out; omega) hT hs); clear hT hs))
     go_roundw
     case rel =>
      have h3 := HJ1.out
      refine ⟨2 * i + 1, _, by go_num, by omega, HM3, ⟨?_⟩, ⟨HT.out.swap (by omega) h3 HLN.out⟩⟩
      rw [swap_comm t0 l' (show i ≠ 2 * i + 1 by omega)]
      exact HD.out.step HLN.out h3 (by omega) (par1 i) HMIN.out (LE_of fn HC2.out)
     case measure => have := HJ1.out; simp [intOf]; omega
    ·have c2' : LT fn (l'.getD (2 * i + 1) t0) (l'.getD i t0) = false := by simpa using c2
     have HC2 := Aside0.mk c2'
     have HO := Aside0.mk (down_out HD.out (fun c hc hcn hp => LE_tr fn _ _ _ (show LE fn (l'.getD i t0) (l'.getD (2 * i + 1) t0) from HC2.out) (HMIN.out c hc hcn hp)))
     clear c2 c2'
     go_wp2_with (first | (go_at_call 51; (with_reducible refine (less_cast (less_calls W wr g fn hfn v l' HM.out.ht (2 * i + 1) (i) (by have := HLN.out; have := HJ1.out;  omega) (by have := HLN.out; have := HJ1.out;  omega)) (show ((2 * i + 1 : Nat) : Int) = 2 * (i : Int) + 1 by omega) (show ((i : Nat) : Int) = (i : Int) by omega)).mono ?_); rintro e w2 ⟨rfl, hb⟩; rw [HC2.out]; have HM2 := Aside0.mk (HM.out.below hb); clear hb))
     go_ret
     exact ⟨_, l', rfl, HM2.out, HO.out, HT.out⟩
end Go.Proofs.Ytacceeefcelkhaa.Al

/- heap.Push, heap.Pop, heap.Remove. -/
namespace Go.Proofs.Ytacceeefcelkhaa.Al
open Go.RowKit Go.Proofs.Ytacceeefcelkhaa.DueHeap Go.Proofs.Ytacceeefcelkhaa.DueSpec Go.Proofs.YtacceeefcelkhaaW.PrintWords Go.Proofs.YtacceeefcelkhaaW.PrintLast Go.Proofs.YtacceeefcelkhaaW.PrintMore
set_option linter.unusedVariables false
set_option linter.unusedSimpArgs false
theorem swap_cast2 {w : World} {g : Nat} {Q : Ending → World → Prop} {i k : Nat} {x y : Int} (h : Calls Try.prog 54 #[.pointer (some ⟨g, 0, none⟩), .int .i64 i, .int .i64 k] w Q) (hx : (i : Int) = x) (hy : (k : Int) = y) : Calls Try.prog 54 #[.pointer (some ⟨g, 0, none⟩), .int .i64 x, .int .i64 y] w Q := by
 subst hx hy
 exact h
theorem down_cast {w : World} {T : Value} {Q : Ending → World → Prop} {i k : Nat} {x y : Int} (h : Calls Try.prog 33 #[T, .int .i64 i, .int .i64 k] w Q) (hx : (i : Int) = x) (hy : (k : Int) = y) : Calls Try.prog 33 #[T, .int .i64 x, .int .i64 y] w Q := by
 subst hx hy
 exact h
theorem len_cast {W w : World} {g fn : Nat} {v : Value} {l : List Tk} {n : Nat} (h : HT W w g fn v l) (hn : l.length = n) : Calls Try.prog 27 #[.pointer (some ⟨g, 0, none⟩)] w fun e w' => e = .returned (.int .i64 n) ∧ Below w.heap.size w w' := by
 subst hn
 exact hlen_calls W w g fn v l h
/-- A heap: its row is one. -/
structure HP (W w : World) (g fn : Nat) (v : Value) (l : List Tk) : Prop where
 ht : HT W w g fn v l
 heap : Heap (LE fn) t0 l.length l
theorem HP.below {W w w1 : World} {g fn : Nat} {v : Value} {l : List Tk} (h : HP W w g fn v l) (hb : Below w.heap.size w w1) : HP W w1 g fn v l := ⟨h.ht.below hb, h.heap⟩
set_option maxHeartbeats 8000000 in
set_option maxRecDepth 100000 in
theorem heapPush_calls (W w : World) (g fn : Nat) (hfn : fn = 23 ∨ fn = 24) (v : Value) (l : List Tk) (h : HP W w g fn v l) (x : Tk) (hlen : l.length < 100000) : Calls Try.prog 25 #[.iface 50 (.pointer (some ⟨g, 0, none⟩)), .iface 61 (a4 x)] w fun e w' => e = .returned (.tuple #[]) ∧ ∃ v' l', HP W w' g fn v' l' ∧ Step w w' g v v' ∧ l'.Perm (x :: l) := by
 have mP := m_Push
 have mN := m_Len
 have HH := Aside0.mk h
 obtain ⟨m, hm⟩ : ∃ m, m = l.length := ⟨_, rfl⟩
 have HM := Aside0.mk hm
 rw [← hm] at hlen
 have hw : wrap64 (((m + 1 : Nat) : Int) - 1) = (m : Int) := by unfold wrap64; omega
 have hw' : IntKind.i64.wrap (((m + 1 : Nat) : Int) - 1) = (m : Int) := by rw [IntKind.wrap_i64]; omega
 have hw2 : ((m + 1 : Nat) : Int) - 1 = (m : Int) := by omega
 obtain ⟨k, hk⟩ : ∃ k, k = m + 1 := ⟨_, rfl⟩
 rw [← hk] at hw hw' hw2
 have HK := Aside0.mk hk
 clear h hm hk
 go_enter Try.func25, Try.ntmps25
 go_wp2_with (first | (go_at_call 53; refine (hpush_calls W w g fn v l HH.out.ht x (by rw [← HM.out]; omega)).mono ?_; rintro e w1 ⟨rfl, v1, hT, hs⟩; have H1 := Aside0.mk hT; have HS1 := Aside0.mk hs; clear hT hs) | (go_at_call 27; refine (len_cast H1.out (show (l ++ [x]).length = k by rw [HK.out, HM.out]; simp)).mono ?_; rintro e w2 ⟨rfl, hb⟩; have H2 := Aside0.mk (H1.out.below hb); have HS2 := Aside0.mk (HS1.out.trans (Step.of_below hb _ _)); clear hb) | (go_at_call 32; refine (up_calls W w2 g fn hfn v1 (l ++ [x]) H2.out m (m + 1) (Nat.lt_succ_self m) (by rw [HM.out]; simp) (by rw [List.length_append, List.length_singleton, ← HM.out]; omega) (by rw [HM.out]; exact UpInv.of_push HH.out.heap x)).mono ?_; rintro e w3 ⟨rfl, l', hM, hh, _⟩; have HM3 := Aside0.mk hM; have HH3 := Aside0.mk hh; clear hM hh))
 go_end0
 refine ⟨rfl, v1, l', ⟨HM3.out.ht, ?_⟩, HS2.out.trans HM3.out.st, HM3.out.perm.trans List.perm_append_comm⟩
 have := HM3.out.len
 rw [this, List.length_append, List.length_singleton, ← HM.out]
 exact HH3.out
set_option maxHeartbeats 8000000 in
set_option maxRecDepth 100000 in
theorem heapPop_calls (W w : World) (g fn : Nat) (hfn : fn = 23 ∨ fn = 24) (v : Value) (l : List Tk) (h : HP W w g fn v l) (hp : 0 < l.length) (hlen : l.length ≤ 100000) : Calls Try.prog 28 #[.iface 50 (.pointer (some ⟨g, 0, none⟩))] w fun e w' => e = .returned (.iface 61 (a4 (l.getD 0 t0))) ∧ ∃ v' l', HP W w' g fn v' l' ∧ Step w w' g v v' ∧ (l.getD 0 t0 :: l').Perm l := by
 have mP := m_Pop
 have mN := m_Len
 have mS := m_Swap
 have HH := Aside0.mk h
 obtain ⟨m, hm⟩ : ∃ m, l.length = m + 1 := ⟨l.length - 1, by omega⟩
 have HM := Aside0.mk hm
 rw [hm] at hlen
 have hw : wrap64 (((m + 1 : Nat) : Int) - 1) = (m : Int) := by unfold wrap64; omega
 have hw' : IntKind.i64.wrap (((m + 1 : Nat) : Int) - 1) = (m : Int) := by rw [IntKind.wrap_i64]; omega
 have hw2 : ((m + 1 : Nat) : Int) - 1 = (m : Int) := by omega
 obtain ⟨k, hk⟩ : ∃ k, k = m + 1 := ⟨_, rfl⟩
 rw [← hk] at hw hw' hw2 hlen
 have HK := Aside0.mk hk
 have HD : Aside0 (DownInv (LE fn) t0 m (swap t0 l 0 m) 0 0) := ⟨by
  by_cases h0 : 0 < m
  ·exact DownInv.of_swap (LE_tr fn) h.heap hm h0
  ·exact ⟨fun k hk hkn _ _ => by omega, fun h0 => absurd h0 (Nat.lt_irrefl _), fun h0 => absurd rfl h0, Nat.le_refl _⟩⟩
 have HG : Aside0 ((swap t0 l 0 m).getD m t0 = l.getD 0 t0) := ⟨by rw [swap_get (by omega) (by omega), if_pos rfl]⟩
 generalize l.getD 0 t0 = x at HG ⊢
 clear h hm hk
 go_enter Try.func28, Try.ntmps28
 go_wp2_with (first | (go_at_call 27; refine (len_cast HH.out.ht (show l.length = k by rw [HK.out, HM.out])).mono ?_; rintro e w1 ⟨rfl, hb⟩; have H1 := Aside0.mk (HH.out.ht.below hb); have HS1 := Aside0.mk (Step.of_below hb g v); clear hb) | (go_at_call 54; refine (swap_cast2 (hswap_calls W w1 g fn v l H1.out 0 m (by rw [HM.out]; omega) (by rw [HM.out]; omega)) rfl rfl).mono ?_; rintro e w2 ⟨rfl, hT, hs⟩; have H2 := Aside0.mk hT; have HS2 := Aside0.mk (HS1.out.trans hs); clear hT hs) | (go_at_call 33; refine (down_cast (down_calls W w2 g fn hfn v _ H2.out 0 m (by rw [swap_len, HM.out]; omega) (Nat.zero_le _) (by rw [swap_len, HM.out]; have := HK.out; omega) HD.out) rfl rfl).mono ?_; rintro e w3 ⟨b, l2, rfl, hM, hO, hT⟩; have HM3 := Aside0.mk hM; have HO3 := Aside0.mk hO; have HT3 := Aside0.mk hT; clear hM hO hT) | (go_at_call 52; refine (hpop_calls W w3 g fn v l2 HM3.out.ht m (by rw [HM3.out.len, swap_len, HM.out]) (by rw [HM3.out.len, swap_len, HM.out]; have := HK.out; omega)).mono ?_; rintro e w4 ⟨rfl, v4, hT, hs⟩; rw [HT3.out m (Nat.le_refl _), HG.out]; have H4 := Aside0.mk hT; have HS4 := Aside0.mk ((HS2.out.trans HM3.out.st).trans hs); clear hT hs))
 have hl2 : l2.length = m + 1 := by rw [HM3.out.len, swap_len, HM.out]
 have hh : Heap (LE fn) t0 m l2 := by
  cases b with
  |true => exact HO3.out.1 rfl
  |false => exact (HO3.out.2 rfl).done (.inl rfl)
 have hperm : (l2.getD m t0 :: l2.take m).Perm l := take_last_perm (HM3.out.perm.trans (swap_perm (by rw [HM.out]; omega) (by rw [HM.out]; omega))) hl2
 rw [HT3.out m (Nat.le_refl _), HG.out] at hperm
 refine bodyPost_ret (v := .iface 61 (a4 x)) (by simp [results, Try.results28, go_sem]) rfl ⟨rfl, v4, l2.take m, ⟨H4.out, ?_⟩, HS4.out, hperm⟩
 have e : (l2.take m).length = m := by rw [List.length_take, hl2]; omega
 rw [e]
 exact hh.take
set_option maxHeartbeats 8000000 in
set_option maxRecDepth 100000 in
theorem heapRemove_calls (W w : World) (g fn : Nat) (hfn : fn = 23 ∨ fn = 24) (v : Value) (l : List Tk) (h : HP W w g fn v l) (i : Nat) (hi : i < l.length) (hlen : l.length ≤ 100000) : Calls Try.prog 34 #[.iface 50 (.pointer (some ⟨g, 0, none⟩)), .int .i64 i] w fun e w' => e = .returned (.iface 61 (a4 (l.getD i t0))) ∧ ∃ v' l', HP W w' g fn v' l' ∧ Step w w' g v v' ∧ (l.getD i t0 :: l').Perm l := by
 have mP := m_Pop
 have mN := m_Len
 have mS := m_Swap
 have HH := Aside0.mk h
 obtain ⟨m, hm⟩ : ∃ m, l.length = m + 1 := ⟨l.length - 1, by omega⟩
 have HM := Aside0.mk hm
 rw [hm] at hlen hi
 have hw : wrap64 (((m + 1 : Nat) : Int) - 1) = (m : Int) := by unfold wrap64; omega
 have hw' : IntKind.i64.wrap (((m + 1 : Nat) : Int) - 1) = (m : Int) := by rw [IntKind.wrap_i64]; omega
 have hw2 : ((m + 1 : Nat) : Int) - 1 = (m : Int) := by omega
 obtain ⟨k, hk⟩ : ∃ k, k = m + 1 := ⟨_, rfl⟩
 rw [← hk] at hw hw' hw2 hlen
 have HK := Aside0.mk hk
 have HI := Aside0.mk hi
 by_cases hmi : m = i
 ·have e1 : ((m : Int) != (i : Int)) = false := by simp [hmi]
  have HMI := Aside0.mk hmi
  clear h hm hk hmi hi
  obtain ⟨x, hx⟩ : ∃ x, x = l.getD i t0 := ⟨_, rfl⟩
  rw [← hx]
  have HX := Aside0.mk hx
  clear hx
  go_enter Try.func34, Try.ntmps34
  go_wp2_with (first | (go_at_call 27; refine (len_cast HH.out.ht (show l.length = k by rw [HK.out, HM.out])).mono ?_; rintro e w1 ⟨rfl, hb⟩; have H1 := Aside0.mk (HH.out.ht.below hb); have HS1 := Aside0.mk (Step.of_below hb g v); clear hb) | (go_at_call 52; refine (hpop_calls W w1 g fn v l H1.out m HM.out (by rw [HM.out]; have := HK.out; omega)).mono ?_; rintro e w4 ⟨rfl, v4, hT, hs⟩; rw [HMI.out, ← HX.out] ; have H4 := Aside0.mk hT; have HS4 := Aside0.mk (HS1.out.trans hs); clear hT hs))
  have hperm : (l.getD m t0 :: l.take m).Perm l := take_last_perm (List.Perm.refl l) HM.out
  rw [HMI.out, ← HX.out, ← HMI.out] at hperm
  refine bodyPost_ret (v := .iface 61 (a4 x)) (by simp [results, Try.results34, go_sem]) rfl ⟨rfl, v4, l.take m, ⟨H4.out, ?_⟩, HS4.out, hperm⟩
  have e : (l.take m).length = m := by rw [List.length_take, HM.out]; omega
  rw [e]
  exact Heap.take (fun k hk hkm => HH.out.heap k hk (by rw [HM.out]; omega))
 ·have e1 : ((m : Int) != (i : Int)) = true := bne_iff_ne.2 (by omega)
  have HIM := Aside0.mk (show i < m by omega)
  have HD : Aside0 (DownInv (LE fn) t0 m (swap t0 l i m) i i) := ⟨DownInv.of_swap (LE_tr fn) h.heap hm HIM.out⟩
  have HG : Aside0 ((swap t0 l i m).getD m t0 = l.getD i t0) := ⟨by rw [swap_get (by omega) (by omega), if_pos rfl]⟩
  generalize l.getD i t0 = x at HG ⊢
  clear h hm hk hmi hi
  go_enter Try.func34, Try.ntmps34
  go_upto_region 6 with (first | (go_at_call 27; refine (len_cast HH.out.ht (show l.length = k by rw [HK.out, HM.out])).mono ?_; rintro e w1 ⟨rfl, hb⟩; have H1 := Aside0.mk (HH.out.ht.below hb); have HS1 := Aside0.mk (Step.of_below hb g v); clear hb) | (go_at_call 54; refine (hswap_calls W w1 g fn v l H1.out i m (by rw [HM.out]; exact HI.out) (by rw [HM.out]; omega)).mono ?_; rintro e w2 ⟨rfl, hT, hs⟩; have H2 := Aside0.mk hT; have HS2 := Aside0.mk (HS1.out.trans hs); clear hT hs) | (go_at_call 33; refine (down_calls W w2 g fn hfn v _ H2.out i m (by rw [swap_len, HM.out]; omega) (Nat.le_of_lt HIM.out) (by rw [swap_len, HM.out]; have := HK.out; omega) HD.out).mono ?_; rintro e w3 ⟨b, l2, rfl, hM, hO, hT⟩; have HM3 := Aside0.mk hM; have HO3 := Aside0.mk hO; have HT3 := Aside0.mk hT; clear hM hO hT; cases b) | (go_at_call 32; refine (up_calls W w3 g fn hfn v l2 HM3.out.ht i m HIM.out (by rw [HM3.out.len, swap_len, HM.out]; omega) (by rw [HM3.out.len, swap_len, HM.out]; have := HK.out; omega) (HO3.out.2 rfl)).mono ?_; rintro e w4 ⟨rfl, l3, hM, hh, hT⟩; have HM4 := Aside0.mk hM; have HH4 := Aside0.mk hh; have HT4 := Aside0.mk hT; clear hM hh hT))
  ·have hl3 : l3.length = m + 1 := by rw [HM4.out.len, HM3.out.len, swap_len, HM.out]
   have hg3 : l3.getD m t0 = x := by rw [HT4.out m (Nat.le_refl _), HT3.out m (Nat.le_refl _), HG.out]
   have HL3 := Aside0.mk hl3
   have HG3 := Aside0.mk hg3
   clear hl3 hg3
   go_wp2_with (go_at_call 52; refine (hpop_calls W w4 g fn v l3 HM4.out.ht m HL3.out (by rw [HL3.out]; have := HK.out; omega)).mono ?_; rintro e w5 ⟨rfl, v4, hT, hs⟩; rw [HG3.out]; have H5 := Aside0.mk hT; have HS5 := Aside0.mk (((HS2.out.trans HM3.out.st).trans HM4.out.st).trans hs); clear hT hs)
   have hperm : (l3.getD m t0 :: l3.take m).Perm l := take_last_perm ((HM4.out.perm.trans HM3.out.perm).trans (swap_perm (by rw [HM.out]; exact HI.out) (by rw [HM.out]; omega))) HL3.out
   rw [HG3.out] at hperm
   refine bodyPost_ret (v := .iface 61 (a4 x)) (by simp [results, Try.results34, go_sem]) rfl ⟨rfl, v4, l3.take m, ⟨H5.out, ?_⟩, HS5.out, hperm⟩
   have e : (l3.take m).length = m := by rw [List.length_take, HL3.out]; omega
   rw [e]
   exact HH4.out.take
  ·have hl2 : l2.length = m + 1 := by rw [HM3.out.len, swap_len, HM.out]
   have hg2 : l2.getD m t0 = x := by rw [HT3.out m (Nat.le_refl _), HG.out]
   have HL2 := Aside0.mk hl2
   have HG2 := Aside0.mk hg2
   clear hl2 hg2
   go_wp2_with (go_at_call 52; refine (hpop_calls W w3 g fn v l2 HM3.out.ht m HL2.out (by rw [HL2.out]; have := HK.out; omega)).mono ?_; rintro e w5 ⟨rfl, v4, hT, hs⟩; rw [HG2.out]; have H5 := Aside0.mk hT; have HS5 := Aside0.mk ((HS2.out.trans HM3.out.st).trans hs); clear hT hs)
   have hperm : (l2.getD m t0 :: l2.take m).Perm l := take_last_perm (HM3.out.perm.trans (swap_perm (by rw [HM.out]; exact HI.out) (by rw [HM.out]; omega))) HL2.out
   rw [HG2.out] at hperm
   refine bodyPost_ret (v := .iface 61 (a4 x)) (by simp [results, Try.results34, go_sem]) rfl ⟨rfl, v4, l2.take m, ⟨H5.out, ?_⟩, HS5.out, hperm⟩
   have e : (l2.take m).length = m := by rw [List.length_take, HL2.out]; omega
   rw [e]
   exact (HO3.out.1 rfl).take
end Go.Proofs.Ytacceeefcelkhaa.Al

/- The queue's object: two heaps, the tick, and how many were put. -/
namespace Go.Proofs.Ytacceeefcelkhaa.Al
open Go.RowKit Go.Proofs.Ytacceeefcelkhaa.DueHeap Go.Proofs.Ytacceeefcelkhaa.DueSpec Go.Proofs.YtacceeefcelkhaaW.PrintWords Go.Proofs.YtacceeefcelkhaaW.PrintLast Go.Proofs.YtacceeefcelkhaaW.PrintMore
set_option linter.unusedVariables false
set_option linter.unusedSimpArgs false
structure QO (W w : World) (gq gw gd : Nat) (now put : Int) (vw vd : Value) (lw ld : List Tk) : Prop where
 blk : w.heap[gq]? = some (.cells #[.pointer (some ⟨gw, 0, none⟩), .pointer (some ⟨gd, 0, none⟩), .int .i64 now, .int .i64 put] 56 (0, 0))
 ge : W.heap.size ≤ gq
 wt : HP W w gw 23 vw lw
 du : HP W w gd 24 vd ld
 ne : gw ≠ gd
 ap : Ap vw vd
section
variable {W w w1 : World} {gq gw gd : Nat} {now put : Int} {vw vd vw' vd' : Value} {lw ld lw' ld' : List Tk}
theorem QO.bel (h : QO W w gq gw gd now put vw vd lw ld) : Below W.heap.size W w := h.wt.ht.bel
theorem QO.below (h : QO W w gq gw gd now put vw vd lw ld) (hb : Below w.heap.size w w1) : QO W w1 gq gw gd now put vw vd lw ld := ⟨blk_below h.blk hb, h.ge, h.wt.below hb, h.du.below hb, h.ne, h.ap⟩
theorem QO.drew (h : QO W w gq gw gd now put vw vd lw ld) : QO W w.drew gq gw gd now put vw vd lw ld := h.below (below_drew (Below.refl _ _))
theorem QO.turn_w (h : QO W w gq gw gd now put vw vd lw ld) (hp : HP W w1 gw 23 vw' lw') (hs : Step w w1 gw vw vw') : QO W w1 gq gw gd now put vw' vd lw' ld :=
 ⟨(hs.keep.2 gq (blk_lt h.blk) (blk_ne h.blk h.wt.ht.blk (by decide)) (Kd.R_ne h.wt.ht.row h.blk (by decide))).trans h.blk, h.ge, hp, ⟨h.du.ht.other h.wt.ht hs (Ne.symm h.ne) h.ap.symm hp.ht.bel, h.du.heap⟩, h.ne, (Ap.step h.du.ht h.ap.symm hs).symm⟩
theorem QO.turn_d (h : QO W w gq gw gd now put vw vd lw ld) (hp : HP W w1 gd 24 vd' ld') (hs : Step w w1 gd vd vd') : QO W w1 gq gw gd now put vw vd' lw ld' :=
 ⟨(hs.keep.2 gq (blk_lt h.blk) (blk_ne h.blk h.du.ht.blk (by decide)) (Kd.R_ne h.du.ht.row h.blk (by decide))).trans h.blk, h.ge, ⟨h.wt.ht.other h.du.ht hs h.ne h.ap hp.ht.bel, h.wt.heap⟩, hp, h.ne, Ap.step h.wt.ht h.ap hs⟩
/-- A number of the queue's own object set. -/
theorem HP.setq {g fn : Nat} {v : Value} {l : List Tk} {cells : Array Value} (h : HP W w g fn v l) (hb : w.heap[gq]? = some (.cells cells 56 (0, 0))) (hg : W.heap.size ≤ gq) (j : Nat) (u : Value) : HP W (w.setCell ⟨gq, j, none⟩ u) g fn v l :=
 ⟨⟨blk_far h.ht.blk (p := ⟨gq, j, none⟩) (blk_ne h.ht.blk hb (by decide)) u, h.ht.ge, Kd.R_grown1 h.ht.row rfl (due_grown w gq j u) (Kd.R_ne h.ht.row hb (by decide)), below_set h.ht.bel hg⟩, h.heap⟩
theorem QO.setnow (h : QO W w gq gw gd now put vw vd lw ld) (n : Int) : QO W (w.setCell ⟨gq, 2, none⟩ (.int .i64 n)) gq gw gd n put vw vd lw ld := ⟨blk_set h.blk 2 (.int .i64 n), h.ge, h.wt.setq h.blk h.ge _ _, h.du.setq h.blk h.ge _ _, h.ne, h.ap⟩
theorem QO.setput (h : QO W w gq gw gd now put vw vd lw ld) (n : Int) : QO W (w.setCell ⟨gq, 3, none⟩ (.int .i64 n)) gq gw gd now n vw vd lw ld := ⟨blk_set h.blk 3 (.int .i64 n), h.ge, h.wt.setq h.blk h.ge _ _, h.du.setq h.blk h.ge _ _, h.ne, h.ap⟩
/-- What a call on the queue leaves of another object. -/
structure QStep (w w1 : World) (gq gw gd : Nat) (vw vd vw1 vd1 : Value) : Prop where
 size : w.heap.size ≤ w1.heap.size
 keep : ∀ k, k < w.heap.size → k ≠ gq → k ≠ gw → k ≠ gd → vw.ownBlock ≠ some k → vd.ownBlock ≠ some k → w1.heap[k]? = w.heap[k]?
 ow : vw1.ownBlock = vw.ownBlock ∨ vw1.ownBlock = vd.ownBlock ∨ ∃ b, vw1.ownBlock = some b ∧ w.heap.size ≤ b
 od : vd1.ownBlock = vd.ownBlock ∨ vd1.ownBlock = vw.ownBlock ∨ ∃ b, vd1.ownBlock = some b ∧ w.heap.size ≤ b
theorem QStep.refl (w : World) (gq gw gd : Nat) (vw vd : Value) : QStep w w gq gw gd vw vd vw vd := ⟨Nat.le_refl _, fun _ _ _ _ _ _ _ => rfl, .inl rfl, .inl rfl⟩
theorem QStep.of_below {w w1 : World} (hb : Below w.heap.size w w1) (gq gw gd : Nat) (vw vd : Value) : QStep w w1 gq gw gd vw vd vw vd := ⟨hb.size, fun k hk _ _ _ _ _ => hb.block k hk, .inl rfl, .inl rfl⟩
theorem QStep.of_w {w w1 : World} {gq gw gd : Nat} {vw vd vw1 : Value} (h : Step w w1 gw vw vw1) : QStep w w1 gq gw gd vw vd vw1 vd :=
 ⟨h.keep.1, fun k hk _ h2 _ h4 _ => h.keep.2 k hk h2 (fun e => h4 e.symm), by rcases h.own with e | e; exact .inl e; exact .inr (.inr e), .inl rfl⟩
theorem QStep.of_d {w w1 : World} {gq gw gd : Nat} {vw vd vd1 : Value} (h : Step w w1 gd vd vd1) : QStep w w1 gq gw gd vw vd vw vd1 :=
 ⟨h.keep.1, fun k hk _ _ h3 _ h5 => h.keep.2 k hk h3 (fun e => h5 e.symm), .inl rfl, by rcases h.own with e | e; exact .inl e; exact .inr (.inr e)⟩
theorem QStep.of_q {w : World} {gq gw gd : Nat} {vw vd : Value} (j : Nat) (u : Value) : QStep w (w.setCell ⟨gq, j, none⟩ u) gq gw gd vw vd vw vd :=
 ⟨by simp [World.setCell], fun k hk h1 _ _ _ _ => Below.heap_setCell w ⟨gq, j, none⟩ u k h1, .inl rfl, .inl rfl⟩
theorem QStep.trans {w w1 w2 : World} {gq gw gd : Nat} {vw vd vw1 vd1 vw2 vd2 : Value} (h : QStep w w1 gq gw gd vw vd vw1 vd1) (k : QStep w1 w2 gq gw gd vw1 vd1 vw2 vd2) : QStep w w2 gq gw gd vw vd vw2 vd2 := by
 have hs := h.size
 have own : ∀ {x : Value}, (x.ownBlock = vw1.ownBlock ∨ x.ownBlock = vd1.ownBlock ∨ ∃ b, x.ownBlock = some b ∧ w1.heap.size ≤ b) → (x.ownBlock = vw.ownBlock ∨ x.ownBlock = vd.ownBlock ∨ ∃ b, x.ownBlock = some b ∧ w.heap.size ≤ b) := fun {x} hx => by
  rcases hx with e | e | ⟨b, e, hb⟩
  ·rw [e]; exact h.ow
  ·rw [e]
   rcases h.od with e | e | e
   ·exact .inr (.inl e)
   ·exact .inl e
   ·exact .inr (.inr e)
  ·exact .inr (.inr ⟨b, e, by omega⟩)
 refine ⟨Nat.le_trans hs k.size, fun j hj h1 h2 h3 h4 h5 => ?_, own k.ow, ?_⟩
 ·refine (k.keep j (by omega) h1 h2 h3 ?_ ?_).trans (h.keep j hj h1 h2 h3 h4 h5)
  ·rcases h.ow with e | e | ⟨b, e, hb⟩
   ·rw [e]; exact h4
   ·rw [e]; exact h5
   ·rw [e]; intro he; injection he with he; omega
  ·rcases h.od with e | e | ⟨b, e, hb⟩
   ·rw [e]; exact h5
   ·rw [e]; exact h4
   ·rw [e]; intro he; injection he with he; omega
 ·rcases own (show vd2.ownBlock = vw1.ownBlock ∨ vd2.ownBlock = vd1.ownBlock ∨ _ from by rcases k.od with e | e | e; exact .inr (.inl e); exact .inl e; exact .inr (.inr e)) with e | e | e
  ·exact .inr (.inl e)
  ·exact .inl e
  ·exact .inr (.inr e)
end
end Go.Proofs.Ytacceeefcelkhaa.Al

/- The queue's Len and ripen. -/
namespace Go.Proofs.Ytacceeefcelkhaa.Al
open Go.RowKit Go.Proofs.Ytacceeefcelkhaa.DueHeap Go.Proofs.Ytacceeefcelkhaa.DueSpec Go.Proofs.YtacceeefcelkhaaW.PrintWords Go.Proofs.YtacceeefcelkhaaW.PrintLast Go.Proofs.YtacceeefcelkhaaW.PrintMore
set_option linter.unusedVariables false
set_option linter.unusedSimpArgs false
def rg14_1_T : Bool × List (List Nat × List Nat) := (true, [([], []), ([0], [0]), ([1], [1]), ([2], [2]), ([3], [3]), ([], []), ([5], [5]), ([6], [6]), ([7], [7]), ([8, 4], [8]), ([4, 9], [4, 9]), ([10, 9, 0, 1, 2, 3, 4, 5, 6, 7, 8, 9, 10], [10])])
def rg14_1_B : List Nat := [0, 1, 3, 7, 15, 0, 32, 96, 224, 511, 1023, 2047]
theorem rg14_1_tab : rtab .any (opsOf Try.f14 1) = rg14_1_T := by kernel_rfl
theorem rg14_1_bits : waitsOk rg14_1_T.2 rg14_1_B = true := by kernel_rfl
def rg26_1_T : Bool × List (List Nat × List Nat) := (true, [([], []), ([0], [0]), ([1], [1]), ([2], [2]), ([3], [3]), ([4], [4]), ([5, 4], [5]), ([6], [6]), ([7, 6], [6, 7]), ([8, 6], [6, 8]), ([9, 6], [6, 9]), ([10, 6], [6, 10]), ([11, 6], [6, 11]), ([12, 6], [6, 12]), ([13, 6], [6, 13]), ([14, 6], [6, 14]), ([15, 6], [6, 15]), ([6], [6]), ([17, 6], [6, 17]), ([18, 6], [6, 18]), ([19, 6], [6, 19]), ([16, 20, 6], [6, 16, 20]), ([6, 21], [6, 21])])
def rg26_1_B : List Nat := [0, 1, 3, 7, 15, 31, 63, 127, 255, 511, 1023, 2047, 4095, 8191, 16383, 32767, 65535, 127, 131199, 393343, 917631, 2097151, 4194303]
theorem rg26_1_tab : rtab .any (opsOf Try.f26 1) = rg26_1_T := by kernel_rfl
theorem rg26_1_bits : waitsOk rg26_1_T.2 rg26_1_B = true := by kernel_rfl
set_option maxHeartbeats 8000000 in
set_option maxRecDepth 100000 in
theorem qlen_calls (W w : World) (gq gw gd : Nat) (now put : Int) (vw vd : Value) (lw ld : List Tk) (h : QO W w gq gw gd now put vw vd lw ld) (hl : lw.length + ld.length ≤ 100000) : Calls Try.prog 14 #[.pointer (some ⟨gq, 0, none⟩)] w fun e w' => e = .returned (.int .i64 ((lw.length + ld.length : Nat) : Int)) ∧ Below w.heap.size w w' := by
 have hd := h.drew
 have hbk := hd.blk
 obtain ⟨a, ha⟩ : ∃ a, a = lw.length := ⟨_, rfl⟩
 obtain ⟨b, hb⟩ : ∃ b, b = ld.length := ⟨_, rfl⟩
 rw [← ha, ← hb] at hl ⊢
 have HA := Aside0.mk ha
 have HB := Aside0.mk hb
 have hw : wrap64 ((a : Int) + (b : Int)) = (a : Int) + (b : Int) := by unfold wrap64; omega
 have hw' : IntKind.i64.wrap ((a : Int) + (b : Int)) = (a : Int) + (b : Int) := by rw [IntKind.wrap_i64]; omega
 have hc : ((a + b : Nat) : Int) = (a : Int) + (b : Int) := by omega
 rw [hc]
 clear h ha hb hc
 go_enter Try.func14, Try.ntmps14
 go_upto_region 1 with (fail)
 refine start_ (n := 12) (S := fun w' => w'.heap[gq]? = some (.cells #[.pointer (some ⟨gw, 0, none⟩), .pointer (some ⟨gd, 0, none⟩), .int .i64 now, .int .i64 put] 56 (0, 0))) (ds := []) #[false, false, false, false, false, false, false, false, false, false, false, false] (by kernel_rfl) rfl rfl hbk (fun hHeld => ?_)
 refine with_tabW rg14_1_tab rg14_1_bits (fun HT_ HW_ => ?_)
 obtain ⟨W1, hW1⟩ : ∃ W1, W1 = w.drew := ⟨_, rfl⟩
 have HB1 := Aside0.mk (show Below w.heap.size w W1 from by rw [hW1]; exact below_drew (Below.refl _ _))
 have H1 : Aside0 (QO W W1 gq gw gd now put vw vd lw ld) := ⟨by rw [hW1]; exact hd⟩
 rw [← hW1] at hHeld ⊢
 clear hd hbk hW1
 refine pure_ (i := 0) (N := some 3) (v := ?_) (a' := ?_) #[true, false, false, false, false, false, false, false, false, false, false, false] rfl rfl (any_of HT_.out (by kernel_rfl)) (fun _ _ _ h => h) (Or.inl ⟨by rfl, ?_⟩) ?_ ?_
 rotate_left
 ·intro w'
  go_simp
  with_reducible rfl
 rotate_left
 ·simp only [Act.put, List.setIfInBounds_toArray, List.set_cons_zero, List.set_cons_succ, i64_w, i32_w]
  rfl
 refine pure_ (i := 1) (N := some 4) (v := ?_) (a' := ?_) #[true, true, false, false, false, false, false, false, false, false, false, false] rfl rfl (any_of HT_.out (by kernel_rfl)) (fun _ _ _ h => h) (Or.inl ⟨by rfl, ?_⟩) ?_ ?_
 rotate_left
 ·intro w'
  go_simp
  with_reducible rfl
 rotate_left
 ·simp only [Act.put, List.setIfInBounds_toArray, List.set_cons_zero, List.set_cons_succ, i64_w, i32_w]
  rfl
 refine pure_ (i := 2) (N := some 5) (v := ?_) (a' := ?_) #[true, true, true, false, false, false, false, false, false, false, false, false] rfl rfl (any_of HT_.out (by kernel_rfl)) (fun _ _ _ h => h) (Or.inl ⟨by rfl, ?_⟩) ?_ ?_
 rotate_left
 ·intro w'
  go_simp
  with_reducible rfl
 rotate_left
 ·simp only [Act.put, List.setIfInBounds_toArray, List.set_cons_zero, List.set_cons_succ, i64_w, i32_w]
  rfl
 refine pure_ (i := 5) (N := some 8) (v := ?_) (a' := ?_) #[true, true, true, false, false, true, false, false, false, false, false, false] rfl rfl (any_of HT_.out (by kernel_rfl)) (fun _ _ _ h => h) (Or.inl ⟨by rfl, ?_⟩) ?_ ?_
 rotate_left
 ·intro w'
  go_simp
  with_reducible rfl
 rotate_left
 ·simp only [Act.put, List.setIfInBounds_toArray, List.set_cons_zero, List.set_cons_succ, i64_w, i32_w]
  rfl
 refine pure_ (i := 6) (N := some 9) (v := ?_) (a' := ?_) #[true, true, true, false, false, true, true, false, false, false, false, false] rfl rfl (any_of HT_.out (by kernel_rfl)) (fun _ _ _ h => h) (Or.inl ⟨by rfl, ?_⟩) ?_ ?_
 rotate_left
 ·intro w'
  go_simp
  with_reducible rfl
 rotate_left
 ·simp only [Act.put, List.setIfInBounds_toArray, List.set_cons_zero, List.set_cons_succ, i64_w, i32_w]
  rfl
 refine pure_ (i := 7) (N := some 10) (v := ?_) (a' := ?_) #[true, true, true, false, false, true, true, true, false, false, false, false] rfl rfl (any_of HT_.out (by kernel_rfl)) (fun _ _ _ h => h) (Or.inl ⟨by rfl, ?_⟩) ?_ ?_
 rotate_left
 ·intro w'
  go_simp
  with_reducible rfl
 rotate_left
 ·simp only [Act.put, List.setIfInBounds_toArray, List.set_cons_zero, List.set_cons_succ, i64_w, i32_w]
  rfl
 refine take_ (i := 3) (N := some 6) (v := ?_) (a' := ?_) #[true, true, true, true, false, true, true, true, false, false, false, false] rfl rfl (take_ofW HT_.out HW_.out (by kernel_rfl)) (fun _ _ _ h => h) (Or.inl ⟨by rfl, ?_⟩) hHeld ?_ ?_
 rotate_left
 ·rintro w' s0
  have y0 : w'.cell? ⟨gq, 0, none⟩ = some (.pointer (some ⟨gw, 0, none⟩)) := (blk_cell s0 0).trans rfl
  go_simp
  with_reducible rfl
 rotate_left
 ·simp only [Act.put, List.setIfInBounds_toArray, List.set_cons_zero, List.set_cons_succ, i64_w, i32_w]
  rfl
 refine take_ (i := 8) (N := some 11) (v := ?_) (a' := ?_) #[true, true, true, true, false, true, true, true, true, false, false, false] rfl rfl (take_ofW HT_.out HW_.out (by kernel_rfl)) (fun _ _ _ h => h) (Or.inl ⟨by rfl, ?_⟩) hHeld ?_ ?_
 rotate_left
 ·rintro w' s0
  have y1 : w'.cell? ⟨gq, 1, none⟩ = some (.pointer (some ⟨gd, 0, none⟩)) := (blk_cell s0 1).trans rfl
  go_simp
  with_reducible rfl
 rotate_left
 ·simp only [Act.put, List.setIfInBounds_toArray, List.set_cons_zero, List.set_cons_succ, i64_w, i32_w]
  rfl
 refine one_ (i := 4) (N := some 7) #[true, true, true, true, true, true, true, true, true, false, false, false] rfl rfl (one_of HT_.out (by kernel_rfl)) (by decide) (fun K hK => ?_)
 (refine goes_ Try.func27 (by kernel_rfl) rfl #[.pointer (some ⟨gw, 0, none⟩)] (by rfl) rfl rfl (by (try simp only [List.map_toArray, List.map_cons, List.map_nil]); first | done | rfl) ?_; refine (len_cast H1.out.wt.ht HA.out.symm).mono ?_; rintro e w5 ⟨rfl, hb⟩; refine ⟨_, rfl, ?_⟩; have H5 := Aside0.mk (H1.out.below hb); have HB5 := Aside0.mk (below_step HB1.out hb); clear hb)
 refine hK.out _ _ H5.out.blk (fun hHeld => ?_)
 clear hK K
 try simp only [Act.put, List.setIfInBounds_toArray, List.set_cons_zero, List.set_cons_succ, i64_w, i32_w]
 refine one_ (i := 9) (N := some 12) #[true, true, true, true, true, true, true, true, true, true, false, false] rfl rfl (one_of HT_.out (by kernel_rfl)) (by decide) (fun K hK => ?_)
 (refine goes_ Try.func27 (by kernel_rfl) rfl #[.pointer (some ⟨gd, 0, none⟩)] (by rfl) rfl rfl (by (try simp only [List.map_toArray, List.map_cons, List.map_nil]); first | done | rfl) ?_; refine (len_cast H5.out.du.ht HB.out.symm).mono ?_; rintro e w6 ⟨rfl, hb⟩; refine ⟨_, rfl, ?_⟩; have H6 := Aside0.mk (H5.out.below hb); have HB6 := Aside0.mk (below_step HB5.out hb); clear hb)
 refine hK.out _ _ H6.out.blk (fun hHeld => ?_)
 clear hK K
 try simp only [Act.put, List.setIfInBounds_toArray, List.set_cons_zero, List.set_cons_succ, i64_w, i32_w]
 refine pure_ (i := 10) (N := some 13) (v := ?_) (a' := ?_) #[true, true, true, true, true, true, true, true, true, true, true, false] rfl rfl (any_of HT_.out (by kernel_rfl)) (fun _ _ _ h => h) (Or.inl ⟨by rfl, ?_⟩) ?_ ?_
 rotate_left
 ·intro w'
  go_simp
  with_reducible rfl
 rotate_left
 ·simp only [Act.put, List.setIfInBounds_toArray, List.set_cons_zero, List.set_cons_succ, i64_w, i32_w]
  rfl
 refine pure_ (i := 11) (N := some 2) (v := ?_) (a' := ?_) #[true, true, true, true, true, true, true, true, true, true, true, true] rfl rfl (any_of HT_.out (by kernel_rfl)) (fun _ _ _ h => h) (Or.inl ⟨by rfl, ?_⟩) ?_ ?_
 rotate_left
 ·intro w'
  go_simp
  with_reducible rfl
 rotate_left
 ·simp only [Act.put, List.setIfInBounds_toArray, List.set_cons_zero, List.set_cons_succ, i64_w, i32_w]
  rfl
 refine done_ (done_of HT_.out (by kernel_rfl)) ?_
 clear hHeld
 go_wp2
 go_ret
 exact ⟨rfl, HB6.out⟩
/-- The first of a row, where there is one. -/
theorem first_cell {W w : World} {g fn : Nat} {v : Value} {l : List Tk} (h : HT W w g fn v l) (hp : 0 < l.length) : ∃ ga c, v = .slice (some ⟨ga, 0, none⟩) l.length c ∧ w.cell? ⟨ga, 0, none⟩ = some (.int .i64 (l.getD 0 t0).at_) := by
 obtain ⟨ga, c, rfl⟩ := ht_form h hp
 have := (T4_cell h.row 0 hp).1
 rw [Nat.zero_mul] at this
 exact ⟨ga, c, rfl, this⟩
/-- What ripen leaves: what was due stays due; of the others, those whose tick has come. -/
structure Ripe (now : Int) (lw ld lw' ld' : List Tk) : Prop where
 perm : (lw' ++ ld').Perm (lw ++ ld)
 due : (∀ x ∈ ld, x.at_ ≤ now) → ∀ x ∈ ld', x.at_ ≤ now
theorem Ripe.refl (now : Int) (lw ld : List Tk) : Ripe now lw ld lw ld := ⟨List.Perm.refl _, fun h => h⟩
theorem Ripe.step {now : Int} {lw ld lw1 ld1 lw2 ld2 : List Tk} {x : Tk} (h : Ripe now lw ld lw1 ld1) (hx : x.at_ ≤ now) (hw : (x :: lw2).Perm lw1) (hd : ld2.Perm (x :: ld1)) : Ripe now lw ld lw2 ld2 := by
 refine ⟨?_, fun hn y hy => ?_⟩
 ·refine List.Perm.trans ?_ h.perm
  refine (List.Perm.append_left lw2 hd).trans ?_
  refine List.perm_middle.trans ?_
  exact hw.append_right ld1
 ·rcases List.mem_cons.1 (hd.mem_iff.1 hy) with rfl | hy
  ·exact hx
  ·exact h.due hn y hy
set_option maxHeartbeats 8000000 in
set_option maxRecDepth 100000 in
theorem ripen_calls (W w : World) (gq gw gd : Nat) (now put : Int) (vw vd : Value) (lw ld : List Tk) (h : QO W w gq gw gd now put vw vd lw ld) (hl : lw.length + ld.length < 100000) : Calls Try.prog 26 #[.pointer (some ⟨gq, 0, none⟩)] w fun e w' => e = .returned (.tuple #[]) ∧ ∃ vw' vd' lw' ld', QO W w' gq gw gd now put vw' vd' lw' ld' ∧ QStep w w' gq gw gd vw vd vw' vd' ∧ Ripe now lw ld lw' ld' ∧ ∀ x ∈ lw', now < x.at_ := by
 have hu61 := Try.underlying61
 have H0 := Aside0.mk h
 have HS0 := Aside0.mk (QStep.refl w gq gw gd vw vd)
 have HR0 := Aside0.mk (Ripe.refl now lw ld)
 have HL := Aside0.mk hl
 have q1 : w.cell? ⟨gq, 1, none⟩ = some (.pointer (some ⟨gd, 0, none⟩)) := (blk_cell h.blk 1).trans rfl
 clear h hl
 go_enter Try.func26, Try.ntmps26
 go_wp2
 go_loopg [] lw.length (fun kx wr => ∃ (vw' vd' : Value) (lw' ld' : List Tk), lw'.length ≤ kx ∧ Aside0 (QO W wr gq gw gd now put vw' vd' lw' ld') ∧ Aside0 (QStep w wr gq gw gd vw vd vw' vd') ∧ Aside0 (Ripe now lw ld lw' ld'))
 case atStart => exact ⟨vw, vd, lw, ld, Nat.le_refl _, H0, HS0, HR0⟩
 case round =>
  obtain ⟨vw1, vd1, lw1, ld1, hk, H1, HS1, HR1⟩ := hrel
  clear H0 HS0 HR0 q1
  have HLB : Aside0 (lw1.length + ld1.length < 100000) := ⟨by have := HR1.out.perm.length_eq; rw [List.length_append, List.length_append] at this; have := HL.out; omega⟩
  have HK := Aside0.mk hk
  clear hk
  by_cases hp : 0 < lw1.length
  ·obtain ⟨ga, c, hv, hc⟩ := first_cell H1.out.drew.wt.ht hp
   obtain ⟨x, hx⟩ : ∃ x, x = lw1.getD 0 t0 := ⟨_, rfl⟩
   have HX := Aside0.mk hx
   rw [← hx] at hc
   have hbk := H1.out.drew.blk
   have hbw := H1.out.drew.wt.ht.blk
   have HV := Aside0.mk hv
   rw [hv] at hbw
   obtain ⟨n, hn⟩ : ∃ n, n = lw1.length := ⟨_, rfl⟩
   rw [← hn] at hp hbw
   have HN := Aside0.mk hn
   have HPO : Aside0 (0 < lw1.length) := ⟨by rw [← hn]; exact hp⟩
   have d0 : decide (0 < (n : Int)) = true := decide_eq_true (by omega)
   have d1 : decide (0 < n) = true := decide_eq_true hp
   have d3 : (0 < n) = True := eq_true hp
   clear hx hv hn hp
   by_cases hd : x.at_ ≤ now
   ·have d2 : decide (x.at_ ≤ now) = true := decide_eq_true hd
    have HD := Aside0.mk hd
    clear hd
    go_upto_region 1 with (fail)
    refine start_ (n := 23) (S := fun w' => w'.heap[gq]? = some (.cells #[.pointer (some ⟨gw, 0, none⟩), .pointer (some ⟨gd, 0, none⟩), .int .i64 now, .int .i64 put] 56 (0, 0)) ∧ w'.heap[gw]? = some (.cells #[.slice (some ⟨ga, 0, none⟩) n c, .func (.func 23) #[] #[]] 54 (0, 0)) ∧ w'.cell? ⟨ga, 0, none⟩ = some (.int .i64 x.at_)) (ds := []) #[false, false, false, false, false, false, false, false, false, false, false, false, false, false, false, false, false, false, false, false, false, false, false] (by kernel_rfl) rfl rfl ⟨hbk, hbw, hc⟩ (fun hHeld => ?_)
    refine with_tabW rg26_1_tab rg26_1_bits (fun HT_ HW_ => ?_)
    obtain ⟨W1, hW1⟩ : ∃ W1, W1 = wr.drew := ⟨_, rfl⟩
    have HB4 := Aside0.mk (show Below wr.heap.size wr W1 from by rw [hW1]; exact below_drew (Below.refl _ _))
    have H4 := Aside0.mk (H1.out.below HB4.out)
    rw [← hW1] at hHeld ⊢
    clear hbk hbw hc hW1
    refine pure_ (i := 0) (N := some 8) (v := ?_) (a' := ?_) #[true, false, false, false, false, false, false, false, false, false, false, false, false, false, false, false, false, false, false, false, false, false, false] rfl rfl (any_of HT_.out (by kernel_rfl)) (fun _ _ _ h => h) (Or.inl ⟨by rfl, ?_⟩) ?_ ?_
    rotate_left
    ·intro w'
     go_simp
     with_reducible rfl
    rotate_left
    ·simp only [Act.put, List.setIfInBounds_toArray, List.set_cons_zero, List.set_cons_succ, i64_w, i32_w]
     rfl
    refine pure_ (i := 1) (N := some 9) (v := ?_) (a' := ?_) #[true, true, false, false, false, false, false, false, false, false, false, false, false, false, false, false, false, false, false, false, false, false, false] rfl rfl (any_of HT_.out (by kernel_rfl)) (fun _ _ _ h => h) (Or.inl ⟨by rfl, ?_⟩) ?_ ?_
    rotate_left
    ·intro w'
     go_simp
     with_reducible rfl
    rotate_left
    ·simp only [Act.put, List.setIfInBounds_toArray, List.set_cons_zero, List.set_cons_succ, i64_w, i32_w]
     rfl
    refine pure_ (i := 2) (N := some 10) (v := ?_) (a' := ?_) #[true, true, true, false, false, false, false, false, false, false, false, false, false, false, false, false, false, false, false, false, false, false, false] rfl rfl (any_of HT_.out (by kernel_rfl)) (fun _ _ _ h => h) (Or.inl ⟨by rfl, ?_⟩) ?_ ?_
    rotate_left
    ·intro w'
     go_simp
     with_reducible rfl
    rotate_left
    ·simp only [Act.put, List.setIfInBounds_toArray, List.set_cons_zero, List.set_cons_succ, i64_w, i32_w]
     rfl
    refine take_ (i := 3) (N := some 11) (v := ?_) (a' := ?_) #[true, true, true, true, false, false, false, false, false, false, false, false, false, false, false, false, false, false, false, false, false, false, false] rfl rfl (take_ofW HT_.out HW_.out (by kernel_rfl)) (fun _ _ _ h => h) (Or.inl ⟨by rfl, ?_⟩) hHeld ?_ ?_
    rotate_left
    ·rintro w' ⟨s0, s1, s2⟩
     have y0 : w'.cell? ⟨gq, 0, none⟩ = some (.pointer (some ⟨gw, 0, none⟩)) := (blk_cell s0 0).trans rfl
     go_simp
     with_reducible rfl
    rotate_left
    ·simp only [Act.put, List.setIfInBounds_toArray, List.set_cons_zero, List.set_cons_succ, i64_w, i32_w]
     rfl
    refine one_ (i := 4) (N := some 12) #[true, true, true, true, true, false, false, false, false, false, false, false, false, false, false, false, false, false, false, false, false, false, false] rfl rfl (one_of HT_.out (by kernel_rfl)) (by decide) (fun K hK => ?_)
    (refine goes_ Try.func27 (by kernel_rfl) rfl #[.pointer (some ⟨gw, 0, none⟩)] (by rfl) rfl rfl (by (try simp only [List.map_toArray, List.map_cons, List.map_nil]); first | done | rfl) ?_; refine (len_cast H4.out.wt.ht HN.out.symm).mono ?_; rintro e w5 ⟨rfl, hb⟩; refine ⟨_, rfl, ?_⟩; have H5 := Aside0.mk (H4.out.below hb); have HS5 := Aside0.mk (HS1.out.trans (QStep.of_below (below_step HB4.out hb) _ _ _ _ _)); clear hb)
    refine hK.out _ _ (by obtain ⟨ga2, c2, hv2, hc2⟩ := first_cell H5.out.wt.ht HPO.out; have he := HV.out.symm.trans hv2; rw [← HN.out] at he; injection he with he _ _; injection he with he; injection he with he; rw [← he, ← HX.out] at hc2; have hb2 := H5.out.wt.ht.blk; rw [HV.out, ← HN.out] at hb2; exact ⟨H5.out.blk, hb2, hc2⟩) (fun hHeld => ?_)
    clear hK K
    try simp only [Act.put, List.setIfInBounds_toArray, List.set_cons_zero, List.set_cons_succ, i64_w, i32_w]
    refine pure_ (i := 5) (N := some 13) (v := ?_) (a' := ?_) #[true, true, true, true, true, true, false, false, false, false, false, false, false, false, false, false, false, false, false, false, false, false, false] rfl rfl (any_of HT_.out (by kernel_rfl)) (fun _ _ _ h => h) (Or.inl ⟨by rfl, ?_⟩) ?_ ?_
    rotate_left
    ·intro w'
     go_simp
     with_reducible rfl
    rotate_left
    ·simp only [Act.put, List.setIfInBounds_toArray, List.set_cons_zero, List.set_cons_succ, i64_w, i32_w]
     rfl
    refine pure_ (i := 6) (N := some 14) (v := ?_) (a' := ?_) #[true, true, true, true, true, true, true, false, false, false, false, false, false, false, false, false, false, false, false, false, false, false, false] rfl rfl (any_of HT_.out (by kernel_rfl)) (fun _ _ _ h => h) (Or.inl ⟨by rfl, ?_⟩) ?_ ?_
    rotate_left
    ·intro w'
     go_simp
     with_reducible rfl
    rotate_left
    ·simp only [Act.put, List.setIfInBounds_toArray, List.set_cons_zero, List.set_cons_succ, i64_w, i32_w]
     rfl
    refine pure_ (i := 7) (N := some 15) (v := ?_) (a' := ?_) #[true, true, true, true, true, true, true, true, false, false, false, false, false, false, false, false, false, false, false, false, false, false, false] rfl rfl (any_of HT_.out (by kernel_rfl)) (fun _ _ _ h => h) (Or.inl ⟨by rfl, ?_⟩) ?_ ?_
    rotate_left
    ·intro w'
     go_simp
     with_reducible rfl
    rotate_left
    ·simp only [Act.put, List.setIfInBounds_toArray, List.set_cons_zero, List.set_cons_succ, i64_w, i32_w]
     rfl
    refine pure_ (i := 8) (N := some 16) (v := ?_) (a' := ?_) #[true, true, true, true, true, true, true, true, true, false, false, false, false, false, false, false, false, false, false, false, false, false, false] rfl rfl (any_of HT_.out (by kernel_rfl)) (fun _ _ _ h => h) (Or.inl ⟨by rfl, ?_⟩) ?_ ?_
    rotate_left
    ·intro w'
     go_simp
     with_reducible rfl
    rotate_left
    ·simp only [Act.put, List.setIfInBounds_toArray, List.set_cons_zero, List.set_cons_succ, i64_w, i32_w]
     rfl
    refine pure_ (i := 9) (N := some 17) (v := ?_) (a' := ?_) #[true, true, true, true, true, true, true, true, true, true, false, false, false, false, false, false, false, false, false, false, false, false, false] rfl rfl (any_of HT_.out (by kernel_rfl)) (fun _ _ _ h => h) (Or.inl ⟨by rfl, ?_⟩) ?_ ?_
    rotate_left
    ·intro w'
     go_simp
     with_reducible rfl
    rotate_left
    ·simp only [Act.put, List.setIfInBounds_toArray, List.set_cons_zero, List.set_cons_succ, i64_w, i32_w]
     rfl
    refine take_ (i := 10) (N := some 18) (v := ?_) (a' := ?_) #[true, true, true, true, true, true, true, true, true, true, true, false, false, false, false, false, false, false, false, false, false, false, false] rfl rfl (take_ofW HT_.out HW_.out (by kernel_rfl)) (fun _ _ _ h => h) (Or.inl ⟨by rfl, ?_⟩) hHeld ?_ ?_
    rotate_left
    ·rintro w' ⟨s0, s1, s2⟩
     have y0 : w'.cell? ⟨gq, 0, none⟩ = some (.pointer (some ⟨gw, 0, none⟩)) := (blk_cell s0 0).trans rfl
     go_simp
     with_reducible rfl
    rotate_left
    ·simp only [Act.put, List.setIfInBounds_toArray, List.set_cons_zero, List.set_cons_succ, i64_w, i32_w]
     rfl
    refine pure_ (i := 11) (N := some 19) (v := ?_) (a' := ?_) #[true, true, true, true, true, true, true, true, true, true, true, true, false, false, false, false, false, false, false, false, false, false, false] rfl rfl (any_of HT_.out (by kernel_rfl)) (fun _ _ _ h => h) (Or.inl ⟨by rfl, ?_⟩) ?_ ?_
    rotate_left
    ·intro w'
     go_simp
     with_reducible rfl
    rotate_left
    ·simp only [Act.put, List.setIfInBounds_toArray, List.set_cons_zero, List.set_cons_succ, i64_w, i32_w]
     rfl
    refine pure_ (i := 12) (N := some 20) (v := ?_) (a' := ?_) #[true, true, true, true, true, true, true, true, true, true, true, true, true, false, false, false, false, false, false, false, false, false, false] rfl rfl (any_of HT_.out (by kernel_rfl)) (fun _ _ _ h => h) (Or.inl ⟨by rfl, ?_⟩) ?_ ?_
    rotate_left
    ·intro w'
     go_simp
     with_reducible rfl
    rotate_left
    ·simp only [Act.put, List.setIfInBounds_toArray, List.set_cons_zero, List.set_cons_succ, i64_w, i32_w]
     rfl
    refine take_ (i := 13) (N := some 21) (v := ?_) (a' := ?_) #[true, true, true, true, true, true, true, true, true, true, true, true, true, true, false, false, false, false, false, false, false, false, false] rfl rfl (take_ofW HT_.out HW_.out (by kernel_rfl)) (fun _ _ _ h => h) (Or.inl ⟨by rfl, ?_⟩) hHeld ?_ ?_
    rotate_left
    ·rintro w' ⟨s0, s1, s2⟩
     have y0 : w'.cell? ⟨gw, 0, none⟩ = some (.slice (some ⟨ga, 0, none⟩) n c) := (blk_cell s1 0).trans rfl
     go_simp
     with_reducible rfl
    rotate_left
    ·simp only [Act.put, List.setIfInBounds_toArray, List.set_cons_zero, List.set_cons_succ, i64_w, i32_w]
     rfl
    refine pure_ (i := 14) (N := some 22) (v := ?_) (a' := ?_) #[true, true, true, true, true, true, true, true, true, true, true, true, true, true, true, false, false, false, false, false, false, false, false] rfl rfl (any_of HT_.out (by kernel_rfl)) (fun _ _ _ h => h) (Or.inl ⟨by rfl, ?_⟩) ?_ ?_
    rotate_left
    ·intro w'
     go_simp
     with_reducible rfl
    rotate_left
    ·simp only [Act.put, List.setIfInBounds_toArray, List.set_cons_zero, List.set_cons_succ, i64_w, i32_w]
     rfl
    refine pure_ (i := 15) (N := some 23) (v := ?_) (a' := ?_) #[true, true, true, true, true, true, true, true, true, true, true, true, true, true, true, true, false, false, false, false, false, false, false] rfl rfl (any_of HT_.out (by kernel_rfl)) (fun _ _ _ h => h) (Or.inl ⟨by rfl, ?_⟩) ?_ ?_
    rotate_left
    ·intro w'
     go_simp
     with_reducible rfl
    rotate_left
    ·simp only [Act.put, List.setIfInBounds_toArray, List.set_cons_zero, List.set_cons_succ, i64_w, i32_w]
     rfl
    refine take_ (i := 16) (N := some 24) (v := ?_) (a' := ?_) #[true, true, true, true, true, true, true, true, true, true, true, true, true, true, true, true, true, false, false, false, false, false, false] rfl rfl (take_ofW HT_.out HW_.out (by kernel_rfl)) (fun _ _ _ h => h) (Or.inl ⟨by rfl, ?_⟩) hHeld ?_ ?_
    rotate_left
    ·rintro w' ⟨s0, s1, s2⟩
     go_simp
     with_reducible rfl
    rotate_left
    ·simp only [Act.put, List.setIfInBounds_toArray, List.set_cons_zero, List.set_cons_succ, i64_w, i32_w]
     rfl
    refine pure_ (i := 17) (N := some 25) (v := ?_) (a' := ?_) #[true, true, true, true, true, true, true, true, true, true, true, true, true, true, true, true, true, true, false, false, false, false, false] rfl rfl (any_of HT_.out (by kernel_rfl)) (fun _ _ _ h => h) (Or.inl ⟨by rfl, ?_⟩) ?_ ?_
    rotate_left
    ·intro w'
     go_simp
     with_reducible rfl
    rotate_left
    ·simp only [Act.put, List.setIfInBounds_toArray, List.set_cons_zero, List.set_cons_succ, i64_w, i32_w]
     rfl
    refine pure_ (i := 18) (N := some 26) (v := ?_) (a' := ?_) #[true, true, true, true, true, true, true, true, true, true, true, true, true, true, true, true, true, true, true, false, false, false, false] rfl rfl (any_of HT_.out (by kernel_rfl)) (fun _ _ _ h => h) (Or.inl ⟨by rfl, ?_⟩) ?_ ?_
    rotate_left
    ·intro w'
     go_simp
     with_reducible rfl
    rotate_left
    ·simp only [Act.put, List.setIfInBounds_toArray, List.set_cons_zero, List.set_cons_succ, i64_w, i32_w]
     rfl
    refine pure_ (i := 19) (N := some 27) (v := ?_) (a' := ?_) #[true, true, true, true, true, true, true, true, true, true, true, true, true, true, true, true, true, true, true, true, false, false, false] rfl rfl (any_of HT_.out (by kernel_rfl)) (fun _ _ _ h => h) (Or.inl ⟨by rfl, ?_⟩) ?_ ?_
    rotate_left
    ·intro w'
     go_simp
     with_reducible rfl
    rotate_left
    ·simp only [Act.put, List.setIfInBounds_toArray, List.set_cons_zero, List.set_cons_succ, i64_w, i32_w]
     rfl
    refine take_ (i := 20) (N := some 28) (v := ?_) (a' := ?_) #[true, true, true, true, true, true, true, true, true, true, true, true, true, true, true, true, true, true, true, true, true, false, false] rfl rfl (take_ofW HT_.out HW_.out (by kernel_rfl)) (fun _ _ _ h => h) (Or.inl ⟨by rfl, ?_⟩) hHeld ?_ ?_
    rotate_left
    ·rintro w' ⟨s0, s1, s2⟩
     have y0 : w'.cell? ⟨gq, 2, none⟩ = some (.int .i64 now) := (blk_cell s0 2).trans rfl
     go_simp
     with_reducible rfl
    rotate_left
    ·simp only [Act.put, List.setIfInBounds_toArray, List.set_cons_zero, List.set_cons_succ, i64_w, i32_w]
     rfl
    refine pure_ (i := 21) (N := some 29) (v := ?_) (a' := ?_) #[true, true, true, true, true, true, true, true, true, true, true, true, true, true, true, true, true, true, true, true, true, true, false] rfl rfl (any_of HT_.out (by kernel_rfl)) (fun _ _ _ h => h) (Or.inl ⟨by rfl, ?_⟩) ?_ ?_
    rotate_left
    ·intro w'
     go_simp
     with_reducible rfl
    rotate_left
    ·simp only [Act.put, List.setIfInBounds_toArray, List.set_cons_zero, List.set_cons_succ, i64_w, i32_w]
     rfl
    refine pure_ (i := 22) (N := some 30) (v := ?_) (a' := ?_) #[true, true, true, true, true, true, true, true, true, true, true, true, true, true, true, true, true, true, true, true, true, true, true] rfl rfl (any_of HT_.out (by kernel_rfl)) (fun _ _ _ h => h) (Or.inl ⟨by rfl, ?_⟩) ?_ ?_
    rotate_left
    ·intro w'
     go_simp
     with_reducible rfl
    rotate_left
    ·simp only [Act.put, List.setIfInBounds_toArray, List.set_cons_zero, List.set_cons_succ, i64_w, i32_w]
     rfl
    refine done_ (done_of HT_.out (by kernel_rfl)) ?_
    clear hHeld
    have y0 : w5.cell? ⟨gq, 0, none⟩ = some (.pointer (some ⟨gw, 0, none⟩)) := (blk_cell H5.out.blk 0).trans rfl
    go_wp2_with (first | (go_at_call 28; refine (heapPop_calls W w5 gw 23 (.inl rfl) vw1 lw1 H5.out.wt HPO.out (by have := HLB.out; omega)).mono ?_; rintro e w6 ⟨rfl, vw2, lw2, hp, hs, hperm⟩; rw [← HX.out]; rw [← HX.out] at hperm; have H6 := Aside0.mk (H5.out.turn_w hp hs); have HS6 := Aside0.mk (HS5.out.trans (QStep.of_w hs)); have HPM6 := Aside0.mk hperm; clear hp hs hperm) | (go_at_call 25; refine (heapPush_calls W w6 gd 24 (.inr rfl) vd1 ld1 H6.out.du x (by have := HLB.out; omega)).mono ?_; rintro e w7 ⟨rfl, vd2, ld2, hp, hs, hperm⟩; have H7 := Aside0.mk (H6.out.turn_d hp hs); have HS7 := Aside0.mk (HS6.out.trans (QStep.of_d hs)); have HPM7 := Aside0.mk hperm; clear hp hs hperm))
    go_roundg lw2.length
    case measure => have h1 := HPM6.out.length_eq; rw [List.length_cons] at h1; have := HK.out; omega
    case rel => exact ⟨vw2, vd2, lw2, ld2, Nat.le_refl _, H7, HS7, ⟨HR1.out.step HD.out HPM6.out HPM7.out⟩⟩
   ·have d2 : decide (x.at_ ≤ now) = false := decide_eq_false hd
    have HD := Aside0.mk hd
    clear hd
    go_upto_region 1 with (fail)
    refine start_ (n := 23) (S := fun w' => w'.heap[gq]? = some (.cells #[.pointer (some ⟨gw, 0, none⟩), .pointer (some ⟨gd, 0, none⟩), .int .i64 now, .int .i64 put] 56 (0, 0)) ∧ w'.heap[gw]? = some (.cells #[.slice (some ⟨ga, 0, none⟩) n c, .func (.func 23) #[] #[]] 54 (0, 0)) ∧ w'.cell? ⟨ga, 0, none⟩ = some (.int .i64 x.at_)) (ds := []) #[false, false, false, false, false, false, false, false, false, false, false, false, false, false, false, false, false, false, false, false, false, false, false] (by kernel_rfl) rfl rfl ⟨hbk, hbw, hc⟩ (fun hHeld => ?_)
    refine with_tabW rg26_1_tab rg26_1_bits (fun HT_ HW_ => ?_)
    obtain ⟨W1, hW1⟩ : ∃ W1, W1 = wr.drew := ⟨_, rfl⟩
    have HB4 := Aside0.mk (show Below wr.heap.size wr W1 from by rw [hW1]; exact below_drew (Below.refl _ _))
    have H4 := Aside0.mk (H1.out.below HB4.out)
    rw [← hW1] at hHeld ⊢
    clear hbk hbw hc hW1
    refine pure_ (i := 0) (N := some 8) (v := ?_) (a' := ?_) #[true, false, false, false, false, false, false, false, false, false, false, false, false, false, false, false, false, false, false, false, false, false, false] rfl rfl (any_of HT_.out (by kernel_rfl)) (fun _ _ _ h => h) (Or.inl ⟨by rfl, ?_⟩) ?_ ?_
    rotate_left
    ·intro w'
     go_simp
     with_reducible rfl
    rotate_left
    ·simp only [Act.put, List.setIfInBounds_toArray, List.set_cons_zero, List.set_cons_succ, i64_w, i32_w]
     rfl
    refine pure_ (i := 1) (N := some 9) (v := ?_) (a' := ?_) #[true, true, false, false, false, false, false, false, false, false, false, false, false, false, false, false, false, false, false, false, false, false, false] rfl rfl (any_of HT_.out (by kernel_rfl)) (fun _ _ _ h => h) (Or.inl ⟨by rfl, ?_⟩) ?_ ?_
    rotate_left
    ·intro w'
     go_simp
     with_reducible rfl
    rotate_left
    ·simp only [Act.put, List.setIfInBounds_toArray, List.set_cons_zero, List.set_cons_succ, i64_w, i32_w]
     rfl
    refine pure_ (i := 2) (N := some 10) (v := ?_) (a' := ?_) #[true, true, true, false, false, false, false, false, false, false, false, false, false, false, false, false, false, false, false, false, false, false, false] rfl rfl (any_of HT_.out (by kernel_rfl)) (fun _ _ _ h => h) (Or.inl ⟨by rfl, ?_⟩) ?_ ?_
    rotate_left
    ·intro w'
     go_simp
     with_reducible rfl
    rotate_left
    ·simp only [Act.put, List.setIfInBounds_toArray, List.set_cons_zero, List.set_cons_succ, i64_w, i32_w]
     rfl
    refine take_ (i := 3) (N := some 11) (v := ?_) (a' := ?_) #[true, true, true, true, false, false, false, false, false, false, false, false, false, false, false, false, false, false, false, false, false, false, false] rfl rfl (take_ofW HT_.out HW_.out (by kernel_rfl)) (fun _ _ _ h => h) (Or.inl ⟨by rfl, ?_⟩) hHeld ?_ ?_
    rotate_left
    ·rintro w' ⟨s0, s1, s2⟩
     have y0 : w'.cell? ⟨gq, 0, none⟩ = some (.pointer (some ⟨gw, 0, none⟩)) := (blk_cell s0 0).trans rfl
     go_simp
     with_reducible rfl
    rotate_left
    ·simp only [Act.put, List.setIfInBounds_toArray, List.set_cons_zero, List.set_cons_succ, i64_w, i32_w]
     rfl
    refine one_ (i := 4) (N := some 12) #[true, true, true, true, true, false, false, false, false, false, false, false, false, false, false, false, false, false, false, false, false, false, false] rfl rfl (one_of HT_.out (by kernel_rfl)) (by decide) (fun K hK => ?_)
    (refine goes_ Try.func27 (by kernel_rfl) rfl #[.pointer (some ⟨gw, 0, none⟩)] (by rfl) rfl rfl (by (try simp only [List.map_toArray, List.map_cons, List.map_nil]); first | done | rfl) ?_; refine (len_cast H4.out.wt.ht HN.out.symm).mono ?_; rintro e w5 ⟨rfl, hb⟩; refine ⟨_, rfl, ?_⟩; have H5 := Aside0.mk (H4.out.below hb); have HS5 := Aside0.mk (HS1.out.trans (QStep.of_below (below_step HB4.out hb) _ _ _ _ _)); clear hb)
    refine hK.out _ _ (by obtain ⟨ga2, c2, hv2, hc2⟩ := first_cell H5.out.wt.ht HPO.out; have he := HV.out.symm.trans hv2; rw [← HN.out] at he; injection he with he _ _; injection he with he; injection he with he; rw [← he, ← HX.out] at hc2; have hb2 := H5.out.wt.ht.blk; rw [HV.out, ← HN.out] at hb2; exact ⟨H5.out.blk, hb2, hc2⟩) (fun hHeld => ?_)
    clear hK K
    try simp only [Act.put, List.setIfInBounds_toArray, List.set_cons_zero, List.set_cons_succ, i64_w, i32_w]
    refine pure_ (i := 5) (N := some 13) (v := ?_) (a' := ?_) #[true, true, true, true, true, true, false, false, false, false, false, false, false, false, false, false, false, false, false, false, false, false, false] rfl rfl (any_of HT_.out (by kernel_rfl)) (fun _ _ _ h => h) (Or.inl ⟨by rfl, ?_⟩) ?_ ?_
    rotate_left
    ·intro w'
     go_simp
     with_reducible rfl
    rotate_left
    ·simp only [Act.put, List.setIfInBounds_toArray, List.set_cons_zero, List.set_cons_succ, i64_w, i32_w]
     rfl
    refine pure_ (i := 6) (N := some 14) (v := ?_) (a' := ?_) #[true, true, true, true, true, true, true, false, false, false, false, false, false, false, false, false, false, false, false, false, false, false, false] rfl rfl (any_of HT_.out (by kernel_rfl)) (fun _ _ _ h => h) (Or.inl ⟨by rfl, ?_⟩) ?_ ?_
    rotate_left
    ·intro w'
     go_simp
     with_reducible rfl
    rotate_left
    ·simp only [Act.put, List.setIfInBounds_toArray, List.set_cons_zero, List.set_cons_succ, i64_w, i32_w]
     rfl
    refine pure_ (i := 7) (N := some 15) (v := ?_) (a' := ?_) #[true, true, true, true, true, true, true, true, false, false, false, false, false, false, false, false, false, false, false, false, false, false, false] rfl rfl (any_of HT_.out (by kernel_rfl)) (fun _ _ _ h => h) (Or.inl ⟨by rfl, ?_⟩) ?_ ?_
    rotate_left
    ·intro w'
     go_simp
     with_reducible rfl
    rotate_left
    ·simp only [Act.put, List.setIfInBounds_toArray, List.set_cons_zero, List.set_cons_succ, i64_w, i32_w]
     rfl
    refine pure_ (i := 8) (N := some 16) (v := ?_) (a' := ?_) #[true, true, true, true, true, true, true, true, true, false, false, false, false, false, false, false, false, false, false, false, false, false, false] rfl rfl (any_of HT_.out (by kernel_rfl)) (fun _ _ _ h => h) (Or.inl ⟨by rfl, ?_⟩) ?_ ?_
    rotate_left
    ·intro w'
     go_simp
     with_reducible rfl
    rotate_left
    ·simp only [Act.put, List.setIfInBounds_toArray, List.set_cons_zero, List.set_cons_succ, i64_w, i32_w]
     rfl
    refine pure_ (i := 9) (N := some 17) (v := ?_) (a' := ?_) #[true, true, true, true, true, true, true, true, true, true, false, false, false, false, false, false, false, false, false, false, false, false, false] rfl rfl (any_of HT_.out (by kernel_rfl)) (fun _ _ _ h => h) (Or.inl ⟨by rfl, ?_⟩) ?_ ?_
    rotate_left
    ·intro w'
     go_simp
     with_reducible rfl
    rotate_left
    ·simp only [Act.put, List.setIfInBounds_toArray, List.set_cons_zero, List.set_cons_succ, i64_w, i32_w]
     rfl
    refine take_ (i := 10) (N := some 18) (v := ?_) (a' := ?_) #[true, true, true, true, true, true, true, true, true, true, true, false, false, false, false, false, false, false, false, false, false, false, false] rfl rfl (take_ofW HT_.out HW_.out (by kernel_rfl)) (fun _ _ _ h => h) (Or.inl ⟨by rfl, ?_⟩) hHeld ?_ ?_
    rotate_left
    ·rintro w' ⟨s0, s1, s2⟩
     have y0 : w'.cell? ⟨gq, 0, none⟩ = some (.pointer (some ⟨gw, 0, none⟩)) := (blk_cell s0 0).trans rfl
     go_simp
     with_reducible rfl
    rotate_left
    ·simp only [Act.put, List.setIfInBounds_toArray, List.set_cons_zero, List.set_cons_succ, i64_w, i32_w]
     rfl
    refine pure_ (i := 11) (N := some 19) (v := ?_) (a' := ?_) #[true, true, true, true, true, true, true, true, true, true, true, true, false, false, false, false, false, false, false, false, false, false, false] rfl rfl (any_of HT_.out (by kernel_rfl)) (fun _ _ _ h => h) (Or.inl ⟨by rfl, ?_⟩) ?_ ?_
    rotate_left
    ·intro w'
     go_simp
     with_reducible rfl
    rotate_left
    ·simp only [Act.put, List.setIfInBounds_toArray, List.set_cons_zero, List.set_cons_succ, i64_w, i32_w]
     rfl
    refine pure_ (i := 12) (N := some 20) (v := ?_) (a' := ?_) #[true, true, true, true, true, true, true, true, true, true, true, true, true, false, false, false, false, false, false, false, false, false, false] rfl rfl (any_of HT_.out (by kernel_rfl)) (fun _ _ _ h => h) (Or.inl ⟨by rfl, ?_⟩) ?_ ?_
    rotate_left
    ·intro w'
     go_simp
     with_reducible rfl
    rotate_left
    ·simp only [Act.put, List.setIfInBounds_toArray, List.set_cons_zero, List.set_cons_succ, i64_w, i32_w]
     rfl
    refine take_ (i := 13) (N := some 21) (v := ?_) (a' := ?_) #[true, true, true, true, true, true, true, true, true, true, true, true, true, true, false, false, false, false, false, false, false, false, false] rfl rfl (take_ofW HT_.out HW_.out (by kernel_rfl)) (fun _ _ _ h => h) (Or.inl ⟨by rfl, ?_⟩) hHeld ?_ ?_
    rotate_left
    ·rintro w' ⟨s0, s1, s2⟩
     have y0 : w'.cell? ⟨gw, 0, none⟩ = some (.slice (some ⟨ga, 0, none⟩) n c) := (blk_cell s1 0).trans rfl
     go_simp
     with_reducible rfl
    rotate_left
    ·simp only [Act.put, List.setIfInBounds_toArray, List.set_cons_zero, List.set_cons_succ, i64_w, i32_w]
     rfl
    refine pure_ (i := 14) (N := some 22) (v := ?_) (a' := ?_) #[true, true, true, true, true, true, true, true, true, true, true, true, true, true, true, false, false, false, false, false, false, false, false] rfl rfl (any_of HT_.out (by kernel_rfl)) (fun _ _ _ h => h) (Or.inl ⟨by rfl, ?_⟩) ?_ ?_
    rotate_left
    ·intro w'
     go_simp
     with_reducible rfl
    rotate_left
    ·simp only [Act.put, List.setIfInBounds_toArray, List.set_cons_zero, List.set_cons_succ, i64_w, i32_w]
     rfl
    refine pure_ (i := 15) (N := some 23) (v := ?_) (a' := ?_) #[true, true, true, true, true, true, true, true, true, true, true, true, true, true, true, true, false, false, false, false, false, false, false] rfl rfl (any_of HT_.out (by kernel_rfl)) (fun _ _ _ h => h) (Or.inl ⟨by rfl, ?_⟩) ?_ ?_
    rotate_left
    ·intro w'
     go_simp
     with_reducible rfl
    rotate_left
    ·simp only [Act.put, List.setIfInBounds_toArray, List.set_cons_zero, List.set_cons_succ, i64_w, i32_w]
     rfl
    refine take_ (i := 16) (N := some 24) (v := ?_) (a' := ?_) #[true, true, true, true, true, true, true, true, true, true, true, true, true, true, true, true, true, false, false, false, false, false, false] rfl rfl (take_ofW HT_.out HW_.out (by kernel_rfl)) (fun _ _ _ h => h) (Or.inl ⟨by rfl, ?_⟩) hHeld ?_ ?_
    rotate_left
    ·rintro w' ⟨s0, s1, s2⟩
     go_simp
     with_reducible rfl
    rotate_left
    ·simp only [Act.put, List.setIfInBounds_toArray, List.set_cons_zero, List.set_cons_succ, i64_w, i32_w]
     rfl
    refine pure_ (i := 17) (N := some 25) (v := ?_) (a' := ?_) #[true, true, true, true, true, true, true, true, true, true, true, true, true, true, true, true, true, true, false, false, false, false, false] rfl rfl (any_of HT_.out (by kernel_rfl)) (fun _ _ _ h => h) (Or.inl ⟨by rfl, ?_⟩) ?_ ?_
    rotate_left
    ·intro w'
     go_simp
     with_reducible rfl
    rotate_left
    ·simp only [Act.put, List.setIfInBounds_toArray, List.set_cons_zero, List.set_cons_succ, i64_w, i32_w]
     rfl
    refine pure_ (i := 18) (N := some 26) (v := ?_) (a' := ?_) #[true, true, true, true, true, true, true, true, true, true, true, true, true, true, true, true, true, true, true, false, false, false, false] rfl rfl (any_of HT_.out (by kernel_rfl)) (fun _ _ _ h => h) (Or.inl ⟨by rfl, ?_⟩) ?_ ?_
    rotate_left
    ·intro w'
     go_simp
     with_reducible rfl
    rotate_left
    ·simp only [Act.put, List.setIfInBounds_toArray, List.set_cons_zero, List.set_cons_succ, i64_w, i32_w]
     rfl
    refine pure_ (i := 19) (N := some 27) (v := ?_) (a' := ?_) #[true, true, true, true, true, true, true, true, true, true, true, true, true, true, true, true, true, true, true, true, false, false, false] rfl rfl (any_of HT_.out (by kernel_rfl)) (fun _ _ _ h => h) (Or.inl ⟨by rfl, ?_⟩) ?_ ?_
    rotate_left
    ·intro w'
     go_simp
     with_reducible rfl
    rotate_left
    ·simp only [Act.put, List.setIfInBounds_toArray, List.set_cons_zero, List.set_cons_succ, i64_w, i32_w]
     rfl
    refine take_ (i := 20) (N := some 28) (v := ?_) (a' := ?_) #[true, true, true, true, true, true, true, true, true, true, true, true, true, true, true, true, true, true, true, true, true, false, false] rfl rfl (take_ofW HT_.out HW_.out (by kernel_rfl)) (fun _ _ _ h => h) (Or.inl ⟨by rfl, ?_⟩) hHeld ?_ ?_
    rotate_left
    ·rintro w' ⟨s0, s1, s2⟩
     have y0 : w'.cell? ⟨gq, 2, none⟩ = some (.int .i64 now) := (blk_cell s0 2).trans rfl
     go_simp
     with_reducible rfl
    rotate_left
    ·simp only [Act.put, List.setIfInBounds_toArray, List.set_cons_zero, List.set_cons_succ, i64_w, i32_w]
     rfl
    refine pure_ (i := 21) (N := some 29) (v := ?_) (a' := ?_) #[true, true, true, true, true, true, true, true, true, true, true, true, true, true, true, true, true, true, true, true, true, true, false] rfl rfl (any_of HT_.out (by kernel_rfl)) (fun _ _ _ h => h) (Or.inl ⟨by rfl, ?_⟩) ?_ ?_
    rotate_left
    ·intro w'
     go_simp
     with_reducible rfl
    rotate_left
    ·simp only [Act.put, List.setIfInBounds_toArray, List.set_cons_zero, List.set_cons_succ, i64_w, i32_w]
     rfl
    refine pure_ (i := 22) (N := some 30) (v := ?_) (a' := ?_) #[true, true, true, true, true, true, true, true, true, true, true, true, true, true, true, true, true, true, true, true, true, true, true] rfl rfl (any_of HT_.out (by kernel_rfl)) (fun _ _ _ h => h) (Or.inl ⟨by rfl, ?_⟩) ?_ ?_
    rotate_left
    ·intro w'
     go_simp
     with_reducible rfl
    rotate_left
    ·simp only [Act.put, List.setIfInBounds_toArray, List.set_cons_zero, List.set_cons_succ, i64_w, i32_w]
     rfl
    refine done_ (done_of HT_.out (by kernel_rfl)) ?_
    clear hHeld
    have y0 : w5.cell? ⟨gq, 0, none⟩ = some (.pointer (some ⟨gw, 0, none⟩)) := (blk_cell H5.out.blk 0).trans rfl
    go_wp2
    go_end0
    refine ⟨rfl, vw1, vd1, lw1, ld1, H5.out, HS5.out, HR1.out, fun y hy => ?_⟩
    have h1 := H5.out.wt.heap.least (LE_rf 23) (LE_tr 23) hy
    rw [← HX.out] at h1
    have h2 : earlyT y x = false := h1
    rw [early_not] at h2
    have := HD.out
    omega
  ·obtain rfl : lw1 = [] := List.eq_nil_of_length_eq_zero (by omega)
   have hbk := H1.out.drew.blk
   clear hp
   go_upto_region 1 with (fail)
   refine start_ (n := 23) (S := fun w' => w'.heap[gq]? = some (.cells #[.pointer (some ⟨gw, 0, none⟩), .pointer (some ⟨gd, 0, none⟩), .int .i64 now, .int .i64 put] 56 (0, 0))) (ds := []) #[false, false, false, false, false, false, false, false, false, false, false, false, false, false, false, false, false, false, false, false, false, false, false] (by kernel_rfl) rfl rfl hbk (fun hHeld => ?_)
   refine with_tabW rg26_1_tab rg26_1_bits (fun HT_ HW_ => ?_)
   obtain ⟨W1, hW1⟩ : ∃ W1, W1 = wr.drew := ⟨_, rfl⟩
   have HB4 := Aside0.mk (show Below wr.heap.size wr W1 from by rw [hW1]; exact below_drew (Below.refl _ _))
   have H4 := Aside0.mk (H1.out.below HB4.out)
   rw [← hW1] at hHeld ⊢
   clear hbk hW1
   refine pure_ (i := 0) (N := some 8) (v := ?_) (a' := ?_) #[true, false, false, false, false, false, false, false, false, false, false, false, false, false, false, false, false, false, false, false, false, false, false] rfl rfl (any_of HT_.out (by kernel_rfl)) (fun _ _ _ h => h) (Or.inl ⟨by rfl, ?_⟩) ?_ ?_
   rotate_left
   ·intro w'
    go_simp
    with_reducible rfl
   rotate_left
   ·simp only [Act.put, List.setIfInBounds_toArray, List.set_cons_zero, List.set_cons_succ, i64_w, i32_w]
    rfl
   refine pure_ (i := 1) (N := some 9) (v := ?_) (a' := ?_) #[true, true, false, false, false, false, false, false, false, false, false, false, false, false, false, false, false, false, false, false, false, false, false] rfl rfl (any_of HT_.out (by kernel_rfl)) (fun _ _ _ h => h) (Or.inl ⟨by rfl, ?_⟩) ?_ ?_
   rotate_left
   ·intro w'
    go_simp
    with_reducible rfl
   rotate_left
   ·simp only [Act.put, List.setIfInBounds_toArray, List.set_cons_zero, List.set_cons_succ, i64_w, i32_w]
    rfl
   refine pure_ (i := 2) (N := some 10) (v := ?_) (a' := ?_) #[true, true, true, false, false, false, false, false, false, false, false, false, false, false, false, false, false, false, false, false, false, false, false] rfl rfl (any_of HT_.out (by kernel_rfl)) (fun _ _ _ h => h) (Or.inl ⟨by rfl, ?_⟩) ?_ ?_
   rotate_left
   ·intro w'
    go_simp
    with_reducible rfl
   rotate_left
   ·simp only [Act.put, List.setIfInBounds_toArray, List.set_cons_zero, List.set_cons_succ, i64_w, i32_w]
    rfl
   refine take_ (i := 3) (N := some 11) (v := ?_) (a' := ?_) #[true, true, true, true, false, false, false, false, false, false, false, false, false, false, false, false, false, false, false, false, false, false, false] rfl rfl (take_ofW HT_.out HW_.out (by kernel_rfl)) (fun _ _ _ h => h) (Or.inl ⟨by rfl, ?_⟩) hHeld ?_ ?_
   rotate_left
   ·rintro w' s0
    have y0 : w'.cell? ⟨gq, 0, none⟩ = some (.pointer (some ⟨gw, 0, none⟩)) := (blk_cell s0 0).trans rfl
    go_simp
    with_reducible rfl
   rotate_left
   ·simp only [Act.put, List.setIfInBounds_toArray, List.set_cons_zero, List.set_cons_succ, i64_w, i32_w]
    rfl
   refine one_ (i := 4) (N := some 12) #[true, true, true, true, true, false, false, false, false, false, false, false, false, false, false, false, false, false, false, false, false, false, false] rfl rfl (one_of HT_.out (by kernel_rfl)) (by decide) (fun K hK => ?_)
   (refine goes_ Try.func27 (by kernel_rfl) rfl #[.pointer (some ⟨gw, 0, none⟩)] (by rfl) rfl rfl (by (try simp only [List.map_toArray, List.map_cons, List.map_nil]); first | done | rfl) ?_; refine (len_cast (n := 0) H4.out.wt.ht rfl).mono ?_; rintro e w5 ⟨rfl, hb⟩; refine ⟨_, rfl, ?_⟩; have H5 := Aside0.mk (H4.out.below hb); have HS5 := Aside0.mk (HS1.out.trans (QStep.of_below (below_step HB4.out hb) _ _ _ _ _)); clear hb)
   refine hK.out _ _ H5.out.blk (fun hHeld => ?_)
   clear hK K
   try simp only [Act.put, List.setIfInBounds_toArray, List.set_cons_zero, List.set_cons_succ, i64_w, i32_w]
   refine pure_ (i := 5) (N := some 13) (v := ?_) (a' := ?_) #[true, true, true, true, true, true, false, false, false, false, false, false, false, false, false, false, false, false, false, false, false, false, false] rfl rfl (any_of HT_.out (by kernel_rfl)) (fun _ _ _ h => h) (Or.inl ⟨by rfl, ?_⟩) ?_ ?_
   rotate_left
   ·intro w'
    go_simp
    with_reducible rfl
   rotate_left
   ·simp only [Act.put, List.setIfInBounds_toArray, List.set_cons_zero, List.set_cons_succ, i64_w, i32_w]
    rfl
   refine pure_ (i := 6) (N := some 14) (v := ?_) (a' := ?_) #[true, true, true, true, true, true, true, false, false, false, false, false, false, false, false, false, false, false, false, false, false, false, false] rfl rfl (any_of HT_.out (by kernel_rfl)) (fun _ _ _ h => h) (Or.inl ⟨by rfl, ?_⟩) ?_ ?_
   rotate_left
   ·intro w'
    go_simp
    with_reducible rfl
   rotate_left
   ·simp only [Act.put, List.setIfInBounds_toArray, List.set_cons_zero, List.set_cons_succ, i64_w, i32_w]
    rfl
   refine pure_ (i := 7) (N := some 15) (v := undef) (a' := ?_) #[true, true, true, true, true, true, true, true, false, false, false, false, false, false, false, false, false, false, false, false, false, false, false] rfl rfl (any_of HT_.out (by kernel_rfl)) (fun _ _ _ h => h) (Or.inr ⟨by rfl, rfl⟩) ?_ ?_
   rotate_left
   ·simp only [Act.put, List.setIfInBounds_toArray, List.set_cons_zero, List.set_cons_succ, i64_w, i32_w]
    rfl
   refine pure_ (i := 8) (N := some 16) (v := undef) (a' := ?_) #[true, true, true, true, true, true, true, true, true, false, false, false, false, false, false, false, false, false, false, false, false, false, false] rfl rfl (any_of HT_.out (by kernel_rfl)) (fun _ _ _ h => h) (Or.inr ⟨by rfl, rfl⟩) ?_ ?_
   rotate_left
   ·simp only [Act.put, List.setIfInBounds_toArray, List.set_cons_zero, List.set_cons_succ, i64_w, i32_w]
    rfl
   refine pure_ (i := 9) (N := some 17) (v := undef) (a' := ?_) #[true, true, true, true, true, true, true, true, true, true, false, false, false, false, false, false, false, false, false, false, false, false, false] rfl rfl (any_of HT_.out (by kernel_rfl)) (fun _ _ _ h => h) (Or.inr ⟨by rfl, rfl⟩) ?_ ?_
   rotate_left
   ·simp only [Act.put, List.setIfInBounds_toArray, List.set_cons_zero, List.set_cons_succ, i64_w, i32_w]
    rfl
   refine pure_ (i := 10) (N := some 18) (v := undef) (a' := ?_) #[true, true, true, true, true, true, true, true, true, true, true, false, false, false, false, false, false, false, false, false, false, false, false] rfl rfl (any_of HT_.out (by kernel_rfl)) (fun _ _ _ h => h) (Or.inr ⟨by rfl, rfl⟩) ?_ ?_
   rotate_left
   ·simp only [Act.put, List.setIfInBounds_toArray, List.set_cons_zero, List.set_cons_succ, i64_w, i32_w]
    rfl
   refine pure_ (i := 11) (N := some 19) (v := undef) (a' := ?_) #[true, true, true, true, true, true, true, true, true, true, true, true, false, false, false, false, false, false, false, false, false, false, false] rfl rfl (any_of HT_.out (by kernel_rfl)) (fun _ _ _ h => h) (Or.inr ⟨by rfl, rfl⟩) ?_ ?_
   rotate_left
   ·simp only [Act.put, List.setIfInBounds_toArray, List.set_cons_zero, List.set_cons_succ, i64_w, i32_w]
    rfl
   refine pure_ (i := 12) (N := some 20) (v := undef) (a' := ?_) #[true, true, true, true, true, true, true, true, true, true, true, true, true, false, false, false, false, false, false, false, false, false, false] rfl rfl (any_of HT_.out (by kernel_rfl)) (fun _ _ _ h => h) (Or.inr ⟨by rfl, rfl⟩) ?_ ?_
   rotate_left
   ·simp only [Act.put, List.setIfInBounds_toArray, List.set_cons_zero, List.set_cons_succ, i64_w, i32_w]
    rfl
   refine pure_ (i := 13) (N := some 21) (v := undef) (a' := ?_) #[true, true, true, true, true, true, true, true, true, true, true, true, true, true, false, false, false, false, false, false, false, false, false] rfl rfl (any_of HT_.out (by kernel_rfl)) (fun _ _ _ h => h) (Or.inr ⟨by rfl, rfl⟩) ?_ ?_
   rotate_left
   ·simp only [Act.put, List.setIfInBounds_toArray, List.set_cons_zero, List.set_cons_succ, i64_w, i32_w]
    rfl
   refine pure_ (i := 14) (N := some 22) (v := undef) (a' := ?_) #[true, true, true, true, true, true, true, true, true, true, true, true, true, true, true, false, false, false, false, false, false, false, false] rfl rfl (any_of HT_.out (by kernel_rfl)) (fun _ _ _ h => h) (Or.inr ⟨by rfl, rfl⟩) ?_ ?_
   rotate_left
   ·simp only [Act.put, List.setIfInBounds_toArray, List.set_cons_zero, List.set_cons_succ, i64_w, i32_w]
    rfl
   refine pure_ (i := 15) (N := some 23) (v := undef) (a' := ?_) #[true, true, true, true, true, true, true, true, true, true, true, true, true, true, true, true, false, false, false, false, false, false, false] rfl rfl (any_of HT_.out (by kernel_rfl)) (fun _ _ _ h => h) (Or.inr ⟨by rfl, rfl⟩) ?_ ?_
   rotate_left
   ·simp only [Act.put, List.setIfInBounds_toArray, List.set_cons_zero, List.set_cons_succ, i64_w, i32_w]
    rfl
   refine pure_ (i := 16) (N := some 24) (v := undef) (a' := ?_) #[true, true, true, true, true, true, true, true, true, true, true, true, true, true, true, true, true, false, false, false, false, false, false] rfl rfl (any_of HT_.out (by kernel_rfl)) (fun _ _ _ h => h) (Or.inr ⟨by rfl, rfl⟩) ?_ ?_
   rotate_left
   ·simp only [Act.put, List.setIfInBounds_toArray, List.set_cons_zero, List.set_cons_succ, i64_w, i32_w]
    rfl
   refine pure_ (i := 17) (N := some 25) (v := undef) (a' := ?_) #[true, true, true, true, true, true, true, true, true, true, true, true, true, true, true, true, true, true, false, false, false, false, false] rfl rfl (any_of HT_.out (by kernel_rfl)) (fun _ _ _ h => h) (Or.inr ⟨by rfl, rfl⟩) ?_ ?_
   rotate_left
   ·simp only [Act.put, List.setIfInBounds_toArray, List.set_cons_zero, List.set_cons_succ, i64_w, i32_w]
    rfl
   refine pure_ (i := 18) (N := some 26) (v := undef) (a' := ?_) #[true, true, true, true, true, true, true, true, true, true, true, true, true, true, true, true, true, true, true, false, false, false, false] rfl rfl (any_of HT_.out (by kernel_rfl)) (fun _ _ _ h => h) (Or.inr ⟨by rfl, rfl⟩) ?_ ?_
   rotate_left
   ·simp only [Act.put, List.setIfInBounds_toArray, List.set_cons_zero, List.set_cons_succ, i64_w, i32_w]
    rfl
   refine pure_ (i := 19) (N := some 27) (v := undef) (a' := ?_) #[true, true, true, true, true, true, true, true, true, true, true, true, true, true, true, true, true, true, true, true, false, false, false] rfl rfl (any_of HT_.out (by kernel_rfl)) (fun _ _ _ h => h) (Or.inr ⟨by rfl, rfl⟩) ?_ ?_
   rotate_left
   ·simp only [Act.put, List.setIfInBounds_toArray, List.set_cons_zero, List.set_cons_succ, i64_w, i32_w]
    rfl
   refine pure_ (i := 20) (N := some 28) (v := undef) (a' := ?_) #[true, true, true, true, true, true, true, true, true, true, true, true, true, true, true, true, true, true, true, true, true, false, false] rfl rfl (any_of HT_.out (by kernel_rfl)) (fun _ _ _ h => h) (Or.inr ⟨by rfl, rfl⟩) ?_ ?_
   rotate_left
   ·simp only [Act.put, List.setIfInBounds_toArray, List.set_cons_zero, List.set_cons_succ, i64_w, i32_w]
    rfl
   refine pure_ (i := 21) (N := some 29) (v := undef) (a' := ?_) #[true, true, true, true, true, true, true, true, true, true, true, true, true, true, true, true, true, true, true, true, true, true, false] rfl rfl (any_of HT_.out (by kernel_rfl)) (fun _ _ _ h => h) (Or.inr ⟨by rfl, rfl⟩) ?_ ?_
   rotate_left
   ·simp only [Act.put, List.setIfInBounds_toArray, List.set_cons_zero, List.set_cons_succ, i64_w, i32_w]
    rfl
   refine pure_ (i := 22) (N := some 30) (v := ?_) (a' := ?_) #[true, true, true, true, true, true, true, true, true, true, true, true, true, true, true, true, true, true, true, true, true, true, true] rfl rfl (any_of HT_.out (by kernel_rfl)) (fun _ _ _ h => h) (Or.inl ⟨by rfl, ?_⟩) ?_ ?_
   rotate_left
   ·intro w'
    go_simp
    with_reducible rfl
   rotate_left
   ·simp only [Act.put, List.setIfInBounds_toArray, List.set_cons_zero, List.set_cons_succ, i64_w, i32_w]
    rfl
   refine done_ (done_of HT_.out (by kernel_rfl)) ?_
   clear hHeld
   go_wp2
   go_end0
   exact ⟨rfl, vw1, vd1, [], ld1, H5.out, HS5.out, HR1.out, fun y hy => absurd hy List.not_mem_nil⟩
end Go.Proofs.Ytacceeefcelkhaa.Al

/- The queue as a list in the order in which tasks were put: what each call answers. -/
namespace Go.Proofs.Ytacceeefcelkhaa.DueSpec
open Go.RowKit
set_option linter.unusedVariables false
set_option linter.unusedSimpArgs false
structure Qs where
 L : List Tk
 now : Int
 put : Int
def dueB (now : Int) (x : Tk) : Bool := decide (x.at_ ≤ now)
def bestOf : List Tk → Option Tk
 |[] => none
 |x :: l => match bestOf l with
  |none => some x
  |some y => if urgentT y x = true then some y else some x
def putQ (q : Qs) (a u i : Int) : Qs × Int × Int :=
 if a < 0 ∨ 1099511627776 < a then (q, 0, 1)
 else if 1024 ≤ q.L.length then (q, 0, 2)
 else (⟨q.L ++ [⟨a, u, i, q.put + 1⟩], q.now, q.put + 1⟩, q.put + 1, 0)
def goQ (q : Qs) (tt : Int) : Qs × Int := if tt < q.now ∨ 1099511627776 < tt then (q, 1) else (⟨q.L, tt, q.put⟩, 0)
def takeQ (q : Qs) : Qs × Int × Bool :=
 match bestOf (q.L.filter (dueB q.now)) with
 |none => (q, 0, false)
 |some x => (⟨q.L.erase x, q.now, q.put⟩, x.id, true)
def dropQ (q : Qs) (no : Int) : Qs × Int :=
 match q.L.find? (fun x => x.no == no) with
 |none => (q, 5)
 |some x => (⟨q.L.erase x, q.now, q.put⟩, 0)
def minAt : List Tk → Int × Bool
 |[] => (0, false)
 |x :: l => (l.foldl (fun m y => min m y.at_) x.at_, true)
def nextQ (q : Qs) : Int × Bool := minAt q.L
theorem bestOf_none {l : List Tk} : bestOf l = none ↔ l = [] := by
 cases l with
 |nil => simp [bestOf]
 |cons x l =>
  simp only [bestOf]
  cases bestOf l with
  |none => simp
  |some y => simp only; split <;> simp
theorem bestOf_some : ∀ {l : List Tk} {x : Tk}, bestOf l = some x → x ∈ l ∧ ∀ y ∈ l, leU x y
 |[], x, h => by cases h
 |a :: l, x, h => by
  simp only [bestOf] at h
  cases hb : bestOf l with
  |none =>
   rw [hb] at h
   injection h with h
   subst h
   obtain rfl := bestOf_none.1 hb
   exact ⟨List.mem_cons_self, fun y hy => by rw [List.mem_singleton.1 hy]; exact leU_rf a⟩
  |some y =>
   rw [hb] at h
   obtain ⟨h1, h2⟩ := bestOf_some hb
   simp only at h
   by_cases hu : urgentT y a = true
   ·rw [if_pos hu] at h
    injection h with h
    subst h
    exact ⟨List.mem_cons_of_mem _ h1, fun z hz => by
     rcases List.mem_cons.1 hz with rfl | hz
     ·exact leU_of hu
     ·exact h2 z hz⟩
   ·rw [if_neg hu] at h
    injection h with h
    subst h
    have hay : leU a y := by unfold leU; simpa using hu
    exact ⟨List.mem_cons_self, fun z hz => by
     rcases List.mem_cons.1 hz with rfl | hz
     ·exact leU_rf z
     ·exact leU_tr _ _ _ hay (h2 z hz)⟩
/-- Numbers rise: no two are alike. -/
structure Ok (k : Nat) (q : Qs) : Prop where
 rise : q.L.Pairwise (fun a b => a.no < b.no)
 le : ∀ x ∈ q.L, x.no ≤ q.put
 p0 : 0 ≤ q.put
 p1 : q.put ≤ k
 n0 : 0 ≤ q.now
 n1 : q.now ≤ 1099511627776
 len : q.L.length ≤ 1024
 a0 : ∀ x ∈ q.L, 0 ≤ x.at_ ∧ x.at_ ≤ 1099511627776
theorem Ok.uniq {k : Nat} {q : Qs} (h : Ok k q) {x y : Tk} (hx : x ∈ q.L) (hy : y ∈ q.L) (e : x.no = y.no) : x = y := by
 obtain ⟨i, hi, rfl⟩ := List.getElem_of_mem hx
 obtain ⟨j, hj, rfl⟩ := List.getElem_of_mem hy
 have hp := List.pairwise_iff_getElem.1 h.rise
 rcases Nat.lt_trichotomy i j with hl | hl | hl
 ·have := hp i j hi hj hl; omega
 ·subst hl; rfl
 ·have := hp j i hj hi hl; omega
theorem Ok.mono {k k' : Nat} {q : Qs} (h : Ok k q) (hk : k ≤ k') : Ok k' q := ⟨h.rise, h.le, h.p0, by have := h.p1; omega, h.n0, h.n1, h.len, h.a0⟩
theorem Ok.erase {k : Nat} {q : Qs} (h : Ok k q) (x : Tk) : Ok k ⟨q.L.erase x, q.now, q.put⟩ :=
 ⟨h.rise.sublist List.erase_sublist, fun y hy => h.le y (List.mem_of_mem_erase hy), h.p0, h.p1, h.n0, h.n1, Nat.le_trans List.erase_sublist.length_le h.len, fun y hy => h.a0 y (List.mem_of_mem_erase hy)⟩
theorem Ok.put_ {k : Nat} {q : Qs} (h : Ok k q) (a u i : Int) : Ok (k + 1) (putQ q a u i).1 := by
 unfold putQ
 split
 ·exact h.mono (Nat.le_succ k)
 ·split
  ·exact h.mono (Nat.le_succ k)
  ·rename_i h1 h2
   have := h.p0
   have := h.p1
   refine ⟨List.pairwise_append.2 ⟨h.rise, List.pairwise_singleton _ _, fun x hx y hy => ?_⟩, fun x hx => ?_, by simp only; omega, by simp only; omega, h.n0, h.n1, by simp only [List.length_append, List.length_singleton]; omega, fun x hx => ?_⟩
   ·rw [List.mem_singleton.1 hy]
    have := h.le x hx
    simp only; omega
   ·rcases List.mem_append.1 hx with hx | hx
    ·have := h.le x hx; simp only; omega
    ·rw [List.mem_singleton.1 hx]; simp
   ·rcases List.mem_append.1 hx with hx | hx
    ·exact h.a0 x hx
    ·rw [List.mem_singleton.1 hx]; simp only; omega
theorem Ok.go_ {k : Nat} {q : Qs} (h : Ok k q) (tt : Int) : Ok k (goQ q tt).1 := by
 unfold goQ
 split
 ·exact h
 ·have := h.n0
  exact ⟨h.rise, h.le, h.p0, h.p1, by simp only; omega, by simp only; omega, h.len, h.a0⟩
theorem Ok.take_ {k : Nat} {q : Qs} (h : Ok k q) : Ok k (takeQ q).1 := by
 unfold takeQ
 split
 ·exact h
 ·exact h.erase _
theorem Ok.drop_ {k : Nat} {q : Qs} (h : Ok k q) (no : Int) : Ok k (dropQ q no).1 := by
 unfold dropQ
 split
 ·exact h
 ·exact h.erase _
theorem Ok.empty : Ok 0 ⟨[], 0, 0⟩ := ⟨List.Pairwise.nil, fun x hx => absurd hx List.not_mem_nil, Int.le_refl _, Int.le_refl _, Int.le_refl _, by decide, by decide, fun x hx => absurd hx List.not_mem_nil⟩
/-- What takeQ answers where there is such a least one. -/
theorem takeQ_of {k : Nat} {q : Qs} (h : Ok k q) {x : Tk} (hx : x ∈ q.L) (hd : x.at_ ≤ q.now) (hm : ∀ y ∈ q.L, y.at_ ≤ q.now → leU x y) : takeQ q = (⟨q.L.erase x, q.now, q.put⟩, x.id, true) := by
 unfold takeQ
 have hxf : x ∈ q.L.filter (dueB q.now) := List.mem_filter.2 ⟨hx, decide_eq_true hd⟩
 cases hb : bestOf (q.L.filter (dueB q.now)) with
 |none =>
  rw [bestOf_none.1 hb] at hxf
  cases hxf
 |some y =>
  obtain ⟨h1, h2⟩ := bestOf_some hb
  obtain ⟨h3, h4⟩ := List.mem_filter.1 h1
  have e1 := hm y h3 (of_decide_eq_true h4)
  have e2 := h2 x hxf
  unfold leU at e1 e2
  rw [urgent_not] at e1 e2
  obtain rfl : y = x := h.uniq h3 hx (by omega)
  rfl
theorem takeQ_none {q : Qs} (hm : ∀ y ∈ q.L, q.now < y.at_) : takeQ q = (q, 0, false) := by
 unfold takeQ
 have : q.L.filter (dueB q.now) = [] := List.filter_eq_nil_iff.2 fun y hy hc => by
  have h1 := hm y hy
  have h2 : y.at_ ≤ q.now := of_decide_eq_true hc
  omega
 rw [this]
 rfl
theorem dropQ_of {k : Nat} {q : Qs} (h : Ok k q) {x : Tk} (hx : x ∈ q.L) : dropQ q x.no = (⟨q.L.erase x, q.now, q.put⟩, 0) := by
 unfold dropQ
 cases hb : q.L.find? (fun y => y.no == x.no) with
 |none =>
  have := List.find?_eq_none.1 hb x hx
  simp at this
 |some y =>
  have h1 := List.mem_of_find?_eq_some hb
  have h2 := List.find?_some hb
  obtain rfl : y = x := h.uniq h1 hx (by simpa using h2)
  rfl
theorem dropQ_none {q : Qs} {no : Int} (hm : ∀ y ∈ q.L, y.no ≠ no) : dropQ q no = (q, 5) := by
 unfold dropQ
 rw [List.find?_eq_none.2 (fun y hy => by simpa using hm y hy)]
theorem min_fold (l : List Tk) : ∀ m : Int, (l.foldl (fun m y => min m y.at_) m ≤ m ∧ ∀ y ∈ l, l.foldl (fun m y => min m y.at_) m ≤ y.at_) ∧ (l.foldl (fun m y => min m y.at_) m = m ∨ ∃ y ∈ l, l.foldl (fun m y => min m y.at_) m = y.at_) := by
 induction l with
 |nil => exact fun m => ⟨⟨Int.le_refl _, fun y hy => absurd hy List.not_mem_nil⟩, .inl rfl⟩
 |cons x l ih =>
  intro m
  obtain ⟨⟨h1, h2⟩, h3⟩ := ih (min m x.at_)
  simp only [List.foldl_cons]
  refine ⟨⟨by omega, fun y hy => ?_⟩, ?_⟩
  ·rcases List.mem_cons.1 hy with rfl | hy
   ·omega
   ·exact h2 y hy
  ·rcases h3 with e | ⟨y, hy, e⟩
   ·rw [e]
    by_cases hc : m ≤ x.at_
    ·exact .inl (by omega)
    ·exact .inr ⟨x, List.mem_cons_self, by omega⟩
   ·exact .inr ⟨y, List.mem_cons_of_mem _ hy, e⟩
/-- The least tick, told by what it is. -/
theorem minAt_of {l : List Tk} {m : Int} (h1 : ∃ x ∈ l, x.at_ = m) (h2 : ∀ y ∈ l, m ≤ y.at_) : minAt l = (m, true) := by
 cases l with
 |nil => obtain ⟨x, hx, _⟩ := h1; cases hx
 |cons a l =>
  obtain ⟨⟨g1, g2⟩, g3⟩ := min_fold l a.at_
  obtain ⟨x, hx, rfl⟩ := h1
  simp only [minAt, Prod.mk.injEq, and_true]
  have k1 : l.foldl (fun m y => min m y.at_) a.at_ ≤ x.at_ := by
   rcases List.mem_cons.1 hx with rfl | hx
   ·exact g1
   ·exact g2 x hx
  have k2 : x.at_ ≤ l.foldl (fun m y => min m y.at_) a.at_ := by
   rcases g3 with e | ⟨y, hy, e⟩
   ·rw [e]; exact h2 a List.mem_cons_self
   ·rw [e]; exact h2 y (List.mem_cons_of_mem _ hy)
  omega
/-- The two heaps' lists and the one list. -/
structure Rel (lw ld : List Tk) (q : Qs) : Prop where
 perm : (lw ++ ld).Perm q.L
 wait : ∀ x ∈ lw, q.now < x.at_
 due : ∀ x ∈ ld, x.at_ ≤ q.now
theorem Rel.len {lw ld : List Tk} {q : Qs} (h : Rel lw ld q) : lw.length + ld.length = q.L.length := by rw [← List.length_append]; exact h.perm.length_eq
theorem Rel.take {k : Nat} {lw ld ld' : List Tk} {q : Qs} {x : Tk} (h : Rel lw ld q) (ho : Ok k q) (hx : x ∈ ld) (hm : ∀ y ∈ ld, leU x y) (hp : (x :: ld').Perm ld) : takeQ q = (⟨q.L.erase x, q.now, q.put⟩, x.id, true) ∧ Rel lw ld' ⟨q.L.erase x, q.now, q.put⟩ := by
 have hxL : x ∈ q.L := h.perm.mem_iff.1 (List.mem_append_right _ hx)
 refine ⟨takeQ_of ho hxL (h.due x hx) (fun y hy hd => ?_), ?_, h.wait, fun y hy => h.due y (hp.mem_iff.1 (List.mem_cons_of_mem _ hy))⟩
 ·rcases List.mem_append.1 (h.perm.mem_iff.2 hy) with hy | hy
  ·have := h.wait y hy; omega
  ·exact hm y hy
 ·have : (x :: (lw ++ ld')).Perm q.L := (List.perm_middle.symm.trans (hp.append_left lw)).trans h.perm
  exact (List.cons_perm_iff_perm_erase.1 this).2
theorem Rel.drop_d {k : Nat} {lw ld ld' : List Tk} {q : Qs} {x : Tk} (h : Rel lw ld q) (ho : Ok k q) (hx : x ∈ ld) (hp : (x :: ld').Perm ld) : dropQ q x.no = (⟨q.L.erase x, q.now, q.put⟩, 0) ∧ Rel lw ld' ⟨q.L.erase x, q.now, q.put⟩ := by
 have hxL : x ∈ q.L := h.perm.mem_iff.1 (List.mem_append_right _ hx)
 refine ⟨dropQ_of ho hxL, ?_, h.wait, fun y hy => h.due y (hp.mem_iff.1 (List.mem_cons_of_mem _ hy))⟩
 have : (x :: (lw ++ ld')).Perm q.L := (List.perm_middle.symm.trans (hp.append_left lw)).trans h.perm
 exact (List.cons_perm_iff_perm_erase.1 this).2
theorem Rel.drop_w {k : Nat} {lw ld lw' : List Tk} {q : Qs} {x : Tk} (h : Rel lw ld q) (ho : Ok k q) (hx : x ∈ lw) (hp : (x :: lw').Perm lw) : dropQ q x.no = (⟨q.L.erase x, q.now, q.put⟩, 0) ∧ Rel lw' ld ⟨q.L.erase x, q.now, q.put⟩ := by
 have hxL : x ∈ q.L := h.perm.mem_iff.1 (List.mem_append_left _ hx)
 refine ⟨dropQ_of ho hxL, ?_, fun y hy => h.wait y (hp.mem_iff.1 (List.mem_cons_of_mem _ hy)), h.due⟩
 have : (x :: (lw' ++ ld)).Perm q.L := (hp.append_right ld).trans h.perm
 exact (List.cons_perm_iff_perm_erase.1 this).2
theorem Rel.drop_none {lw ld : List Tk} {q : Qs} {no : Int} (h : Rel lw ld q) (h1 : ∀ y ∈ lw, y.no ≠ no) (h2 : ∀ y ∈ ld, y.no ≠ no) : dropQ q no = (q, 5) :=
 dropQ_none fun y hy => by
  rcases List.mem_append.1 (h.perm.mem_iff.2 hy) with hy | hy
  ·exact h1 y hy
  ·exact h2 y hy
theorem Rel.take_none {lw : List Tk} {q : Qs} (h : Rel lw [] q) : takeQ q = (q, 0, false) :=
 takeQ_none fun y hy => by
  rcases List.mem_append.1 (h.perm.mem_iff.2 hy) with hy | hy
  ·exact h.wait y hy
  ·cases hy
/-- What ripen leaves of any two lists. -/
theorem Rel.of_ripe {lw ld lw' ld' : List Tk} {q : Qs} (hp : (lw ++ ld).Perm q.L) (hd : ∀ x ∈ ld, x.at_ ≤ q.now) (hr : (lw' ++ ld').Perm (lw ++ ld)) (hdue : (∀ x ∈ ld, x.at_ ≤ q.now) → ∀ x ∈ ld', x.at_ ≤ q.now) (hw : ∀ x ∈ lw', q.now < x.at_) : Rel lw' ld' q := ⟨hr.trans hp, hw, hdue hd⟩
end Go.Proofs.Ytacceeefcelkhaa.DueSpec

/- The queue's calls: New, Now, Put, Go. -/
namespace Go.Proofs.Ytacceeefcelkhaa.Al
open Go.RowKit Go.Proofs.Ytacceeefcelkhaa.DueHeap Go.Proofs.Ytacceeefcelkhaa.DueSpec Go.Proofs.YtacceeefcelkhaaW.PrintWords Go.Proofs.YtacceeefcelkhaaW.PrintLast Go.Proofs.YtacceeefcelkhaaW.PrintMore
set_option linter.unusedVariables false
set_option linter.unusedSimpArgs false
/-- A queue's object, and what it is as a list. -/
structure QX (W w : World) (gq gw gd : Nat) (q : Qs) (vw vd : Value) (lw ld : List Tk) : Prop where
 o : QO W w gq gw gd q.now q.put vw vd lw ld
 r : Rel lw ld q
theorem QX.below {W w w1 : World} {gq gw gd : Nat} {q : Qs} {vw vd : Value} {lw ld : List Tk} (h : QX W w gq gw gd q vw vd lw ld) (hb : Below w.heap.size w w1) : QX W w1 gq gw gd q vw vd lw ld := ⟨h.o.below hb, h.r⟩
theorem qnew_calls (W w : World) (hB : Below W.heap.size W w) : Calls Try.prog 7 #[] w fun e w' => ∃ gq gw gd, e = .returned (.pointer (some ⟨gq, 0, none⟩)) ∧ QX W w' gq gw gd ⟨[], 0, 0⟩ (.slice none 0 0) (.slice none 0 0) [] [] ∧ w.heap.size ≤ gq ∧ w.heap.size ≤ gw ∧ w.heap.size ≤ gd ∧ Below w.heap.size w w' := by
 have hu54 := Try.underlying54
 have hu56 := Try.underlying56
 have HB0 := Aside0.mk hB
 clear hB
 go_enter Try.func7, Try.ntmps7
 go_wp2_with (first | ((with_reducible refine gate_dst (N := 2) rfl ?_); refine box_event ?hg (N := 2) ?hd (cs := #[.slice none 0 0, .func (.func 23) #[] #[]]) (t := 54) ?hr ?_; (case hd => rfl); (case hg => rfl); (case hr => first | (go_simp; done) | (go_simp; rfl)); intro gw hg w1 hbox hb; have HXw := Aside0.mk hbox; have HGw := Aside0.mk (Nat.le_of_eq hg.symm); have HB1 := Aside0.mk hb; clear hg hbox hb) | ((with_reducible refine gate_dst (N := 4) rfl ?_); refine box_event ?hg4 (N := 4) ?hd4 (cs := #[.slice none 0 0, .func (.func 24) #[] #[]]) (t := 54) ?hr4 ?_; (case hd4 => rfl); (case hg4 => rfl); (case hr4 => first | (go_simp; done) | (go_simp; rfl)); intro gd hg w2 hbox hb; have HXd := Aside0.mk hbox; have HGd := Aside0.mk (Nat.le_of_eq hg.symm); have HB2 := Aside0.mk hb; clear hg hbox hb) | ((with_reducible refine gate_dst (N := 6) rfl ?_); refine box_event ?hg6 (N := 6) ?hd6 (cs := #[.pointer (some ⟨gw, 0, none⟩), .pointer (some ⟨gd, 0, none⟩), .int .i64 0, .int .i64 0]) (t := 56) ?hr6 ?_; (case hd6 => rfl); (case hg6 => rfl); (case hr6 => first | (go_simp; done) | (go_simp; rfl)); intro gq hg w3 hbox hb; have HXq := Aside0.mk hbox; have HGq := Aside0.mk (Nat.le_of_eq hg.symm); have HB3 := Aside0.mk hb; clear hg hbox hb))
 have b12 := below_step HB1.out HB2.out
 have b13 := below_step b12 HB3.out
 have hw3 := blk_below (blk_below HXw.out HB2.out) HB3.out
 have hd3 := blk_below HXd.out HB3.out
 have s1 := HB1.out.size
 have s2 := HB2.out.size
 have s0 := HB0.out.size
 have gw1 := HGw.out
 have gd1 := HGd.out
 have gq1 := HGq.out
 have hlt := blk_lt HXw.out
 have W3 := below_step HB0.out b13
 have hne : gw ≠ gd := by omega
 have hH : ∀ {g fn : Nat}, w3.heap[g]? = some (.cells #[.slice none 0 0, .func (.func fn) #[] #[]] 54 (0, 0)) → w.heap.size ≤ g → HP W w3 g fn (.slice none 0 0) [] := fun {g fn} hb hg => ⟨⟨hb, by omega, Kd.R_nil _ _ _ _ _, W3⟩, Heap.nil⟩
 go_ret
 exact ⟨gq, gw, gd, rfl, ⟨⟨HXq.out, by omega, hH hw3 (by omega), hH hd3 (by omega), hne, fun q e => by cases e⟩, ⟨List.Perm.refl _, fun x hx => absurd hx List.not_mem_nil, fun x hx => absurd hx List.not_mem_nil⟩⟩, by omega, by omega, by omega, b13⟩
theorem qnow_calls (W w : World) (gq gw gd : Nat) (q : Qs) (vw vd : Value) (lw ld : List Tk) (h : QX W w gq gw gd q vw vd lw ld) : Calls Try.prog 11 #[.pointer (some ⟨gq, 0, none⟩)] w fun e w' => e = .returned (.int .i64 q.now) ∧ Below w.heap.size w w' := by
 have f2 : w.cell? ⟨gq, 2, none⟩ = some (.int .i64 q.now) := (blk_cell h.o.blk 2).trans rfl
 clear h
 go_enter Try.func11, Try.ntmps11
 go_wp2
 go_ret
 exact ⟨rfl, Below.refl _ _⟩
set_option maxHeartbeats 8000000 in
set_option maxRecDepth 100000 in
theorem qgo_calls (W w : World) (gq gw gd : Nat) (q : Qs) (vw vd : Value) (lw ld : List Tk) (h : QX W w gq gw gd q vw vd lw ld) (k : Nat) (ho : DueSpec.Ok k q) (tt : Int) : Calls Try.prog 12 #[.pointer (some ⟨gq, 0, none⟩), .int .i64 tt] w fun e w' => e = .returned (.int .i64 (goQ q tt).2) ∧ ∃ vw' vd' lw' ld', QX W w' gq gw gd (goQ q tt).1 vw' vd' lw' ld' ∧ QStep w w' gq gw gd vw vd vw' vd' := by
 have f2 : w.cell? ⟨gq, 2, none⟩ = some (.int .i64 q.now) := (blk_cell h.o.blk 2).trans rfl
 have z2 := blk_frozen h.o.blk 2
 have HH := Aside0.mk h
 have HO := Aside0.mk ho
 clear h ho
 by_cases h1 : tt < q.now
 ·have d1 : decide (tt < q.now) = true := decide_eq_true h1
  have HR : Aside0 (goQ q tt = (q, 1)) := ⟨if_pos (.inl h1)⟩
  rw [HR.out]
  clear h1
  go_enter Try.func12, Try.ntmps12
  go_wp2
  go_ret
  exact ⟨rfl, vw, vd, lw, ld, HH.out, QStep.refl _ _ _ _ _ _⟩
 ·have d1 : decide (tt < q.now) = false := decide_eq_false h1
  by_cases h2 : 1099511627776 < tt
  ·have d2 : decide (1099511627776 < tt) = true := decide_eq_true h2
   have HR : Aside0 (goQ q tt = (q, 1)) := ⟨if_pos (.inr h2)⟩
   rw [HR.out]
   clear h1 h2
   go_enter Try.func12, Try.ntmps12
   go_wp2
   go_ret
   exact ⟨rfl, vw, vd, lw, ld, HH.out, QStep.refl _ _ _ _ _ _⟩
  ·have d2 : decide (1099511627776 < tt) = false := decide_eq_false h2
   have HR : Aside0 (goQ q tt = (⟨q.L, tt, q.put⟩, 0)) := ⟨if_neg (by omega)⟩
   rw [HR.out]
   have HGE := Aside0.mk (show q.now ≤ tt by omega)
   have HLN : Aside0 (lw.length + ld.length < 100000) := ⟨by rw [HH.out.r.len]; have := HO.out.len; omega⟩
   clear h1 h2
   go_enter Try.func12, Try.ntmps12
   go_wp2_with (first | ((with_reducible refine gate_store (t := 3) (p := 18) rfl ?_); refine store_event (t := 3) (p := 18) (v := ?vo1) (w1 := (w.setCell ⟨gq, 2, none⟩ (.int .i64 tt))) ?hg1 ?ho1 ?hn1 ?hr1 ?_; (case ho1 => rfl); (case hg1 => rfl); (case hn1 => rfl); (case hr1 => first | (go_simp; done) | (go_simp; rfl)); intro w1 hw; have H1 := Aside0.mk (HH.out.o.setnow tt); have HS1 := Aside0.mk (QStep.of_q (w := w) (gq := gq) (gw := gw) (gd := gd) (vw := vw) (vd := vd) 2 (.int .i64 tt)); rw [← hw] at H1 HS1; clear hw f2 z2) | (go_at_call 26; refine (ripen_calls W w1 gq gw gd tt q.put vw vd lw ld H1.out HLN.out).mono ?_; rintro e w2 ⟨rfl, vw2, vd2, lw2, ld2, hq, hs, hr, hw⟩; have H2 := Aside0.mk hq; have HS2 := Aside0.mk (HS1.out.trans hs); have HR2 := Aside0.mk hr; have HW2 := Aside0.mk hw; clear hq hs hr hw))
   go_ret
   refine ⟨rfl, vw2, vd2, lw2, ld2, ⟨H2.out, Rel.of_ripe (lw := lw) (ld := ld) HH.out.r.perm (fun x hx => ?_) HR2.out.perm HR2.out.due HW2.out⟩, HS2.out⟩
   have := HH.out.r.due x hx
   have := HGE.out
   simp only
   omega
def rg10_6_T : Bool × List (List Nat × List Nat) := (true, [([], []), ([0], [0]), ([1], [1]), ([2], [2]), ([3], [3]), ([], []), ([], []), ([], []), ([], []), ([8], [8]), ([9], [9]), ([10], [10]), ([5, 6, 7, 11], [5, 6, 7, 11]), ([12], [12]), ([4, 13], [4, 13])])
def rg10_6_B : List Nat := [0, 1, 3, 7, 15, 0, 0, 0, 0, 256, 768, 1792, 4064, 8160, 16383]
theorem rg10_6_tab : rtab .any (opsOf Try.f10 6) = rg10_6_T := by kernel_rfl
theorem rg10_6_bits : waitsOk rg10_6_T.2 rg10_6_B = true := by kernel_rfl
set_option maxHeartbeats 8000000 in
set_option maxRecDepth 100000 in
theorem qput_calls (W w : World) (gq gw gd : Nat) (q : Qs) (vw vd : Value) (lw ld : List Tk) (h : QX W w gq gw gd q vw vd lw ld) (k : Nat) (ho : DueSpec.Ok k q) (hk : k ≤ 100000) (a u i : Int) : Calls Try.prog 10 #[.pointer (some ⟨gq, 0, none⟩), .int .i64 a, .int .i64 u, .int .i64 i] w fun e w' => e = .returned (.tuple #[.int .i64 (putQ q a u i).2.1, .int .i64 (putQ q a u i).2.2]) ∧ ∃ vw' vd' lw' ld', QX W w' gq gw gd (putQ q a u i).1 vw' vd' lw' ld' ∧ QStep w w' gq gw gd vw vd vw' vd' := by
 have hu61 := Try.underlying61
 have HH := Aside0.mk h
 have HO := Aside0.mk ho
 by_cases h1 : a < 0
 ·have d1 : decide (a < 0) = true := decide_eq_true h1
  have HR : Aside0 (putQ q a u i = (q, 0, 1)) := ⟨if_pos (.inl h1)⟩
  rw [HR.out]
  clear h1 h ho
  go_enter Try.func10, Try.ntmps10
  go_wp2
  exact bodyPost_ret (v := .tuple #[.int .i64 0, .int .i64 1]) (by simp [results, Try.results10, go_sem]) rfl ⟨rfl, vw, vd, lw, ld, HH.out, QStep.refl _ _ _ _ _ _⟩
 ·have d1 : decide (a < 0) = false := decide_eq_false h1
  by_cases h2 : 1099511627776 < a
  ·have d2 : decide (1099511627776 < a) = true := decide_eq_true h2
   have HR : Aside0 (putQ q a u i = (q, 0, 1)) := ⟨if_pos (.inr h2)⟩
   rw [HR.out]
   clear h1 h2 h ho
   go_enter Try.func10, Try.ntmps10
   go_wp2
   exact bodyPost_ret (v := .tuple #[.int .i64 0, .int .i64 1]) (by simp [results, Try.results10, go_sem]) rfl ⟨rfl, vw, vd, lw, ld, HH.out, QStep.refl _ _ _ _ _ _⟩
  ·have d2 : decide (1099511627776 < a) = false := decide_eq_false h2
   obtain ⟨n, hn⟩ : ∃ n, n = q.L.length := ⟨_, rfl⟩
   have HLN : Aside0 (lw.length + ld.length = n) := ⟨by rw [HH.out.r.len, hn]⟩
   have hnl := HO.out.len
   rw [← hn] at hnl
   by_cases h3 : 1024 ≤ n
   ·have d3 : ((n : Int) == 1024) = true := beq_iff_eq.2 (by omega)
    have HR : Aside0 (putQ q a u i = (q, 0, 2)) := ⟨by unfold putQ; rw [if_neg (by omega), if_pos (by omega)]⟩
    rw [HR.out]
    clear h1 h2 h3 h ho hn
    go_enter Try.func10, Try.ntmps10
    go_wp2_with (go_at_call 14; refine (qlen_calls W w gq gw gd _ _ vw vd lw ld HH.out.o (by rw [HLN.out]; omega)).mono ?_; rintro e w1 ⟨rfl, hb⟩; rw [HLN.out]; have H1 := Aside0.mk (HH.out.below hb); have HS1 := Aside0.mk (QStep.of_below hb gq gw gd vw vd); clear hb)
    exact bodyPost_ret (v := .tuple #[.int .i64 0, .int .i64 2]) (by simp [results, Try.results10, go_sem]) rfl ⟨rfl, vw, vd, lw, ld, H1.out, HS1.out⟩
   ·have d3 : ((n : Int) == 1024) = false := by rw [beq_eq_false_iff_ne]; omega
    have HR : Aside0 (putQ q a u i = (⟨q.L ++ [⟨a, u, i, q.put + 1⟩], q.now, q.put + 1⟩, q.put + 1, 0)) := ⟨by unfold putQ; rw [if_neg (by omega), if_neg (by omega)]⟩
    rw [HR.out]
    have hp0 := HO.out.p0
    have hp1 := HO.out.p1
    have hw : wrap64 (q.put + 1) = q.put + 1 := by unfold wrap64; omega
    have hw' : IntKind.i64.wrap (q.put + 1) = q.put + 1 := by rw [IntKind.wrap_i64]; omega
    clear h1 h2 h3 h ho hn
    go_enter Try.func10, Try.ntmps10
    go_upto_region 6 with (first | (go_at_call 14; refine (qlen_calls W w gq gw gd _ _ vw vd lw ld HH.out.o (by rw [HLN.out]; omega)).mono ?_; rintro e w1 ⟨rfl, hb⟩; rw [HLN.out]; have H1 := Aside0.mk (HH.out.below hb); have HS1 := Aside0.mk (QStep.of_below hb gq gw gd vw vd); have f3 : w1.cell? ⟨gq, 3, none⟩ = some (.int .i64 q.put) := (blk_cell H1.out.o.blk 3).trans rfl; have z3 := blk_frozen H1.out.o.blk 3; clear hb) | ((with_reducible refine gate_store (t := 3) (p := 27) rfl ?_); refine store_event (t := 3) (p := 27) (v := ?vo1) (w1 := (w1.setCell ⟨gq, 3, none⟩ (.int .i64 (q.put + 1)))) ?hg1 ?ho1 ?hn1 ?hr1 ?_; (case ho1 => rfl); (case hg1 => rfl); (case hn1 => rfl); (case hr1 => first | (go_simp; done) | (go_simp; rfl)); intro w2 hw; have H2 := Aside0.mk (H1.out.o.setput (q.put + 1)); have HS2 := Aside0.mk (HS1.out.trans (QStep.of_q (w := w1) (gq := gq) (gw := gw) (gd := gd) (vw := vw) (vd := vd) 3 (.int .i64 (q.put + 1)))); rw [← hw] at H2 HS2; clear hw f3 z3))
    obtain ⟨pp, hpp⟩ : ∃ pp, pp = q.put + 1 := ⟨_, rfl⟩
    rw [← hpp] at H2 ⊢
    have HPP := Aside0.mk hpp
    clear hpp hw hw'
    have hbk := H2.out.drew.blk
    refine start_ (n := 15) (S := fun w' => w'.heap[gq]? = some (.cells #[.pointer (some ⟨gw, 0, none⟩), .pointer (some ⟨gd, 0, none⟩), .int .i64 q.now, .int .i64 pp] 56 (0, 0))) (ds := []) #[false, false, false, false, false, false, false, false, false, false, false, false, false, false, false] (by kernel_rfl) rfl rfl hbk (fun hHeld => ?_)
    refine with_tabW rg10_6_tab rg10_6_bits (fun HT_ HW_ => ?_)
    obtain ⟨W1, hW1⟩ : ∃ W1, W1 = w2.drew := ⟨_, rfl⟩
    have HB4 := Aside0.mk (show Below w2.heap.size w2 W1 from by rw [hW1]; exact below_drew (Below.refl _ _))
    have H4 := Aside0.mk (H2.out.below HB4.out)
    have HS4 := Aside0.mk (HS2.out.trans (QStep.of_below HB4.out _ _ _ _ _))
    rw [← hW1] at hHeld ⊢
    clear hbk hW1
    refine pure_ (i := 0) (N := some 28) (v := ?_) (a' := ?_) #[true, false, false, false, false, false, false, false, false, false, false, false, false, false, false] rfl rfl (any_of HT_.out (by kernel_rfl)) (fun _ _ _ h => h) (Or.inl ⟨by rfl, ?_⟩) ?_ ?_
    rotate_left
    ·intro w'
     go_simp
     with_reducible rfl
    rotate_left
    ·simp only [Act.put, List.setIfInBounds_toArray, List.set_cons_zero, List.set_cons_succ, i64_w, i32_w]
     rfl
    refine pure_ (i := 1) (N := some 29) (v := ?_) (a' := ?_) #[true, true, false, false, false, false, false, false, false, false, false, false, false, false, false] rfl rfl (any_of HT_.out (by kernel_rfl)) (fun _ _ _ h => h) (Or.inl ⟨by rfl, ?_⟩) ?_ ?_
    rotate_left
    ·intro w'
     go_simp
     with_reducible rfl
    rotate_left
    ·simp only [Act.put, List.setIfInBounds_toArray, List.set_cons_zero, List.set_cons_succ, i64_w, i32_w]
     rfl
    refine pure_ (i := 2) (N := some 30) (v := ?_) (a' := ?_) #[true, true, true, false, false, false, false, false, false, false, false, false, false, false, false] rfl rfl (any_of HT_.out (by kernel_rfl)) (fun _ _ _ h => h) (Or.inl ⟨by rfl, ?_⟩) ?_ ?_
    rotate_left
    ·intro w'
     go_simp
     with_reducible rfl
    rotate_left
    ·simp only [Act.put, List.setIfInBounds_toArray, List.set_cons_zero, List.set_cons_succ, i64_w, i32_w]
     rfl
    refine take_ (i := 3) (N := some 31) (v := ?_) (a' := ?_) #[true, true, true, true, false, false, false, false, false, false, false, false, false, false, false] rfl rfl (take_ofW HT_.out HW_.out (by kernel_rfl)) (fun _ _ _ h => h) (Or.inl ⟨by rfl, ?_⟩) hHeld ?_ ?_
    rotate_left
    ·rintro w' s0
     have y0 : w'.cell? ⟨gq, 0, none⟩ = some (.pointer (some ⟨gw, 0, none⟩)) := (blk_cell s0 0).trans rfl
     go_simp
     with_reducible rfl
    rotate_left
    ·simp only [Act.put, List.setIfInBounds_toArray, List.set_cons_zero, List.set_cons_succ, i64_w, i32_w]
     rfl
    refine pure_ (i := 4) (N := some 32) (v := ?_) (a' := ?_) #[true, true, true, true, true, false, false, false, false, false, false, false, false, false, false] rfl rfl (any_of HT_.out (by kernel_rfl)) (fun _ _ _ h => h) (Or.inl ⟨by rfl, ?_⟩) ?_ ?_
    rotate_left
    ·intro w'
     go_simp
     with_reducible rfl
    rotate_left
    ·simp only [Act.put, List.setIfInBounds_toArray, List.set_cons_zero, List.set_cons_succ, i64_w, i32_w]
     rfl
    refine pure_ (i := 5) (N := some 33) (v := ?_) (a' := ?_) #[true, true, true, true, true, true, false, false, false, false, false, false, false, false, false] rfl rfl (any_of HT_.out (by kernel_rfl)) (fun _ _ _ h => h) (Or.inl ⟨by rfl, ?_⟩) ?_ ?_
    rotate_left
    ·intro w'
     go_simp
     with_reducible rfl
    rotate_left
    ·simp only [Act.put, List.setIfInBounds_toArray, List.set_cons_zero, List.set_cons_succ, i64_w, i32_w]
     rfl
    refine pure_ (i := 6) (N := some 34) (v := ?_) (a' := ?_) #[true, true, true, true, true, true, true, false, false, false, false, false, false, false, false] rfl rfl (any_of HT_.out (by kernel_rfl)) (fun _ _ _ h => h) (Or.inl ⟨by rfl, ?_⟩) ?_ ?_
    rotate_left
    ·intro w'
     go_simp
     with_reducible rfl
    rotate_left
    ·simp only [Act.put, List.setIfInBounds_toArray, List.set_cons_zero, List.set_cons_succ, i64_w, i32_w]
     rfl
    refine pure_ (i := 7) (N := some 35) (v := ?_) (a' := ?_) #[true, true, true, true, true, true, true, true, false, false, false, false, false, false, false] rfl rfl (any_of HT_.out (by kernel_rfl)) (fun _ _ _ h => h) (Or.inl ⟨by rfl, ?_⟩) ?_ ?_
    rotate_left
    ·intro w'
     go_simp
     with_reducible rfl
    rotate_left
    ·simp only [Act.put, List.setIfInBounds_toArray, List.set_cons_zero, List.set_cons_succ, i64_w, i32_w]
     rfl
    refine pure_ (i := 8) (N := some 36) (v := ?_) (a' := ?_) #[true, true, true, true, true, true, true, true, true, false, false, false, false, false, false] rfl rfl (any_of HT_.out (by kernel_rfl)) (fun _ _ _ h => h) (Or.inl ⟨by rfl, ?_⟩) ?_ ?_
    rotate_left
    ·intro w'
     go_simp
     with_reducible rfl
    rotate_left
    ·simp only [Act.put, List.setIfInBounds_toArray, List.set_cons_zero, List.set_cons_succ, i64_w, i32_w]
     rfl
    refine pure_ (i := 9) (N := some 37) (v := ?_) (a' := ?_) #[true, true, true, true, true, true, true, true, true, true, false, false, false, false, false] rfl rfl (any_of HT_.out (by kernel_rfl)) (fun _ _ _ h => h) (Or.inl ⟨by rfl, ?_⟩) ?_ ?_
    rotate_left
    ·intro w'
     go_simp
     with_reducible rfl
    rotate_left
    ·simp only [Act.put, List.setIfInBounds_toArray, List.set_cons_zero, List.set_cons_succ, i64_w, i32_w]
     rfl
    refine pure_ (i := 10) (N := some 38) (v := ?_) (a' := ?_) #[true, true, true, true, true, true, true, true, true, true, true, false, false, false, false] rfl rfl (any_of HT_.out (by kernel_rfl)) (fun _ _ _ h => h) (Or.inl ⟨by rfl, ?_⟩) ?_ ?_
    rotate_left
    ·intro w'
     go_simp
     with_reducible rfl
    rotate_left
    ·simp only [Act.put, List.setIfInBounds_toArray, List.set_cons_zero, List.set_cons_succ, i64_w, i32_w]
     rfl
    refine take_ (i := 11) (N := some 39) (v := ?_) (a' := ?_) #[true, true, true, true, true, true, true, true, true, true, true, true, false, false, false] rfl rfl (take_ofW HT_.out HW_.out (by kernel_rfl)) (fun _ _ _ h => h) (Or.inl ⟨by rfl, ?_⟩) hHeld ?_ ?_
    rotate_left
    ·rintro w' s0
     have y0 : w'.cell? ⟨gq, 3, none⟩ = some (.int .i64 pp) := (blk_cell s0 3).trans rfl
     go_simp
     with_reducible rfl
    rotate_left
    ·simp only [Act.put, List.setIfInBounds_toArray, List.set_cons_zero, List.set_cons_succ, i64_w, i32_w]
     rfl
    refine pure_ (i := 12) (N := some 40) (v := ?_) (a' := ?_) #[true, true, true, true, true, true, true, true, true, true, true, true, true, false, false] rfl rfl (any_of HT_.out (by kernel_rfl)) (fun _ _ _ h => h) (Or.inl ⟨by rfl, ?_⟩) ?_ ?_
    rotate_left
    ·intro w'
     go_simp
     with_reducible rfl
    rotate_left
    ·simp only [Act.put, List.setIfInBounds_toArray, List.set_cons_zero, List.set_cons_succ, i64_w, i32_w]
     rfl
    refine pure_ (i := 13) (N := some 41) (v := ?_) (a' := ?_) #[true, true, true, true, true, true, true, true, true, true, true, true, true, true, false] rfl rfl (any_of HT_.out (by kernel_rfl)) (fun _ _ _ h => h) (Or.inl ⟨by rfl, ?_⟩) ?_ ?_
    rotate_left
    ·intro w'
     go_simp
     with_reducible rfl
    rotate_left
    ·simp only [Act.put, List.setIfInBounds_toArray, List.set_cons_zero, List.set_cons_succ, i64_w, i32_w]
     rfl
    refine one_ (i := 14) (N := some 42) #[true, true, true, true, true, true, true, true, true, true, true, true, true, true, true] rfl rfl (one_of HT_.out (by kernel_rfl)) (by decide) (fun K hK => ?_)
    (refine goes_ Try.func25 (by kernel_rfl) rfl #[.iface 50 (.pointer (some ⟨gw, 0, none⟩)), .iface 61 (.agg #[.int .i64 a, .int .i64 u, .int .i64 i, .int .i64 pp])] (by rfl) rfl rfl (by (try simp only [List.map_toArray, List.map_cons, List.map_nil]); first | done | rfl) ?_; refine (heapPush_calls W W1 gw 23 (.inl rfl) vw lw H4.out.wt ⟨a, u, i, pp⟩ (by have := HLN.out; omega)).mono ?_; rintro e w5 ⟨rfl, vw5, lw5, hp, hs, hperm⟩; refine ⟨_, rfl, ?_⟩; have H5 := Aside0.mk (H4.out.turn_w hp hs); have HS5 := Aside0.mk (HS4.out.trans (QStep.of_w hs)); have HPM5 := Aside0.mk hperm; clear hp hs hperm)
    refine hK.out _ _ H5.out.blk (fun hHeld => ?_)
    clear hK K
    try simp only [Act.put, List.setIfInBounds_toArray, List.set_cons_zero, List.set_cons_succ, i64_w, i32_w]
    refine done_ (done_of HT_.out (by kernel_rfl)) ?_
    clear hHeld
    have HLN5 : Aside0 (lw5.length + ld.length < 100000) := ⟨by have h1 := HPM5.out.length_eq; rw [List.length_cons] at h1; have := HLN.out; omega⟩
    go_wp2_with (go_at_call 26; refine (ripen_calls W w5 gq gw gd q.now pp vw5 vd lw5 ld H5.out HLN5.out).mono ?_; rintro e w6 ⟨rfl, vw6, vd6, lw6, ld6, hq, hs, hr, hw⟩; have H6 := Aside0.mk hq; have HS6 := Aside0.mk (HS5.out.trans hs); have HR6 := Aside0.mk hr; have HW6 := Aside0.mk hw; have f3 : w6.cell? ⟨gq, 3, none⟩ = some (.int .i64 pp) := (blk_cell hq.blk 3).trans rfl; clear hq hs hr hw)
    obtain rfl := HPP.out
    refine bodyPost_ret (v := .tuple #[.int .i64 (q.put + 1), .int .i64 0]) (by simp [results, Try.results10, go_sem]) rfl ⟨rfl, vw6, vd6, lw6, ld6, ⟨H6.out, Rel.of_ripe (lw := lw5) (ld := ld) ?_ HH.out.r.due HR6.out.perm HR6.out.due HW6.out⟩, HS6.out⟩
    refine (HPM5.out.append_right ld).trans ?_
    refine (List.Perm.cons _ HH.out.r.perm).trans ?_
    exact (List.perm_append_singleton _ _).symm
end Go.Proofs.Ytacceeefcelkhaa.Al

/- The queue's calls: Take, Drop, Next. -/
namespace Go.Proofs.Ytacceeefcelkhaa.Al
open Go.RowKit Go.Proofs.Ytacceeefcelkhaa.DueHeap Go.Proofs.Ytacceeefcelkhaa.DueSpec Go.Proofs.YtacceeefcelkhaaW.PrintWords Go.Proofs.YtacceeefcelkhaaW.PrintLast Go.Proofs.YtacceeefcelkhaaW.PrintMore
set_option linter.unusedVariables false
set_option linter.unusedSimpArgs false
theorem fd61 (x : Tk) (w : World) : Sem.run Try.prog (Instr.field 61 (a4 x) 2) w = .ok (.int .i64 x.id) w := by kernel_rfl
theorem leU_of24 {a b : Tk} (h : LE 24 a b) : leU a b := h
set_option maxHeartbeats 8000000 in
set_option maxRecDepth 100000 in
theorem qtake_calls (W w : World) (gq gw gd : Nat) (q : Qs) (vw vd : Value) (lw ld : List Tk) (h : QX W w gq gw gd q vw vd lw ld) (k : Nat) (ho : DueSpec.Ok k q) : Calls Try.prog 13 #[.pointer (some ⟨gq, 0, none⟩)] w fun e w' => e = .returned (.tuple #[.int .i64 (takeQ q).2.1, .bool (takeQ q).2.2]) ∧ ∃ vw' vd' lw' ld', QX W w' gq gw gd (takeQ q).1 vw' vd' lw' ld' ∧ QStep w w' gq gw gd vw vd vw' vd' := by
 have hu61 := Try.underlying61
 have hta := as61
 have hfd := fd61
 have f1 : w.cell? ⟨gq, 1, none⟩ = some (.pointer (some ⟨gd, 0, none⟩)) := (blk_cell h.o.blk 1).trans rfl
 have HH := Aside0.mk h
 have HO := Aside0.mk ho
 obtain ⟨n, hn⟩ : ∃ n, n = ld.length := ⟨_, rfl⟩
 have HN := Aside0.mk hn
 have hnl : n ≤ 1024 := by have := h.r.len; have := ho.len; omega
 clear h ho
 by_cases h0 : n = 0
 ·have HZ := Aside0.mk h0
  have e1 : ((n : Int) == 0) = true := by rw [h0]; rfl
  have HR : Aside0 (takeQ q = (q, 0, false)) := ⟨by obtain rfl : ld = [] := List.eq_nil_of_length_eq_zero (by omega); exact HH.out.r.take_none⟩
  rw [HR.out]
  clear h0 hn
  go_enter Try.func13, Try.ntmps13
  go_wp2_with (go_at_call 27; refine (len_cast HH.out.o.du.ht HN.out.symm).mono ?_; rintro e w1 ⟨rfl, hb⟩; have H1 := Aside0.mk (HH.out.below hb); have HS1 := Aside0.mk (QStep.of_below hb gq gw gd vw vd); clear hb)
  exact bodyPost_ret (v := .tuple #[.int .i64 0, .bool false]) (by simp [results, Try.results13, go_sem]) rfl ⟨rfl, vw, vd, lw, ld, H1.out, HS1.out⟩
 ·have e1 : ((n : Int) == 0) = false := by rw [beq_eq_false_iff_ne]; omega
  have HP0 : Aside0 (0 < ld.length) := ⟨by omega⟩
  obtain ⟨x, hx⟩ : ∃ x, x = ld.getD 0 t0 := ⟨_, rfl⟩
  have HX := Aside0.mk hx
  have hxm : x ∈ ld := by rw [hx, List.getD_eq_getElem?_getD, List.getElem?_eq_getElem HP0.out]; exact List.getElem_mem _
  have HXM := Aside0.mk hxm
  have HLE : Aside0 (∀ y ∈ ld, leU x y) := ⟨fun y hy => by rw [hx]; exact leU_of24 (HH.out.o.du.heap.least (LE_rf 24) (LE_tr 24) hy)⟩
  have HR : Aside0 (takeQ q = (⟨q.L.erase x, q.now, q.put⟩, x.id, true)) := ⟨takeQ_of HO.out (HH.out.r.perm.mem_iff.1 (List.mem_append_right _ hxm)) (HH.out.r.due x hxm) (fun y hy hd => by
   rcases List.mem_append.1 (HH.out.r.perm.mem_iff.2 hy) with hy | hy
   ·have := HH.out.r.wait y hy; omega
   ·exact HLE.out y hy)⟩
  rw [HR.out]
  clear h0 hn hx hxm
  go_enter Try.func13, Try.ntmps13
  go_wp2_with (first | (go_at_call 27; refine (len_cast HH.out.o.du.ht HN.out.symm).mono ?_; rintro e w1 ⟨rfl, hb⟩; have H1 := Aside0.mk (HH.out.below hb); have HS1 := Aside0.mk (QStep.of_below hb gq gw gd vw vd); have y1 : w1.cell? ⟨gq, 1, none⟩ = some (.pointer (some ⟨gd, 0, none⟩)) := (blk_cell H1.out.o.blk 1).trans rfl; clear hb f1) | (go_at_call 28; refine (heapPop_calls W w1 gd 24 (.inr rfl) vd ld H1.out.o.du HP0.out (by have := HN.out; omega)).mono ?_; rintro e w2 ⟨rfl, vd2, ld2, hp, hs, hperm⟩; rw [← HX.out]; rw [← HX.out] at hperm; have H2 := Aside0.mk (H1.out.o.turn_d hp hs); have HS2 := Aside0.mk (HS1.out.trans (QStep.of_d hs)); have HPM2 := Aside0.mk hperm; clear hp hs hperm))
  have HF := HH.out.r.take HO.out HXM.out HLE.out HPM2.out
  exact bodyPost_ret (v := .tuple #[.int .i64 x.id, .bool true]) (by simp [results, Try.results13, go_sem]) rfl ⟨rfl, vw, vd2, lw, ld2, ⟨H2.out, HF.2⟩, HS2.out⟩
set_option maxHeartbeats 8000000 in
set_option maxRecDepth 100000 in
theorem tdrop_calls (W w : World) (g fn : Nat) (hfn : fn = 23 ∨ fn = 24) (v : Value) (l : List Tk) (h : HP W w g fn v l) (hlen : l.length ≤ 100000) (no : Int) : Calls Try.prog 29 #[.pointer (some ⟨g, 0, none⟩), .int .i64 no] w fun e w' => (e = .returned (.bool false) ∧ Below w.heap.size w w' ∧ ∀ y ∈ l, y.no ≠ no) ∨ (e = .returned (.bool true) ∧ ∃ v' l' x, x ∈ l ∧ x.no = no ∧ HP W w' g fn v' l' ∧ Step w w' g v v' ∧ (x :: l').Perm l) := by
 have hu61 := Try.underlying61
 have HH := Aside0.mk h
 obtain ⟨A, c, hv⟩ := Kd.R_slice h.ht.row
 subst hv
 obtain ⟨n, hn⟩ : ∃ n, n = l.length := ⟨_, rfl⟩
 rw [← hn] at h hlen HH ⊢
 have HN := Aside0.mk hn
 have f0 : w.cell? ⟨g, 0, none⟩ = some (.slice A n c) := (blk_cell h.ht.blk 0).trans rfl
 clear h hn
 go_enter Try.func29, Try.ntmps29
 go_wp2
 go_loopw [12] (fun v12 wr => ∃ i : Nat, v12 = .int .i64 i ∧ i ≤ n ∧ Aside0 (Below w.heap.size w wr) ∧ Aside0 (∀ j, j < i → (l.getD j t0).no ≠ no)) (fun v12 _ => n - (intOf v12).toNat)
 case atStart => exact ⟨0, rfl, Nat.zero_le _, ⟨Below.refl _ _⟩, ⟨fun j hj => absurd hj (Nat.not_lt_zero _)⟩⟩
 case round =>
  clear f0
  obtain ⟨i, rfl, hi, HB, HNO⟩ := hrel
  have HHr := Aside0.mk (HH.out.below HB.out)
  by_cases hlt : i < n
  ·obtain ⟨ga, c', hv⟩ := ht_form HHr.out.ht (by rw [← HN.out]; omega)
   rw [← HN.out] at hv
   injection hv with hv _ hc
   subst hv hc
   obtain ⟨c0, c1, c2, c3, _⟩ := T4_cell HHr.out.ht.row i hlt
   obtain ⟨x, hx⟩ : ∃ x, x = l.getD i t0 := ⟨_, rfl⟩
   rw [← hx] at c0 c1 c2 c3
   have HX := Aside0.mk hx
   have HI := Aside0.mk hlt
   have b1 : decide ((i : Int) < (n : Int)) = true := decide_eq_true (by omega)
   have b2 : decide (i < n) = true := decide_eq_true hlt
   have hmem : x ∈ l := by rw [hx, List.getD_eq_getElem?_getD, List.getElem?_eq_getElem (by rw [← HN.out]; exact hlt)]; exact List.getElem_mem _
   have HMEM := Aside0.mk hmem
   clear hx hmem
   go_upto_region 4 with ((with_reducible refine gate_dst (N := 6) rfl ?_); refine box_event ?hg (N := 6) ?hd (cs := #[.int .i64 0, .int .i64 0, .int .i64 0, .int .i64 0]) (t := 61) ?hr ?_; (case hd => rfl); (case hg => rfl); (case hr => first | (go_simp; done) | (go_simp; rfl)); intro gb hgb wb hbox hb; have BX := Aside0.mk hbox; have HGE := Aside0.mk (show wr.heap.size ≤ gb from Nat.le_of_eq hgb.symm); have HBb := Aside0.mk hb; have hz0 := (blk_cell hbox 0).trans rfl; have hzf0 := blk_frozen hbox 0; have hz1 := (blk_cell hbox 1).trans rfl; have hzf1 := blk_frozen hbox 1; have hz2 := (blk_cell hbox 2).trans rfl; have hzf2 := blk_frozen hbox 2; have hz3 := (blk_cell hbox 3).trans rfl; have hzf3 := blk_frozen hbox 3; clear hgb hbox hb)
   have HB3 : Aside0 (Below wr.heap.size wr ((((wb.setCell ⟨gb, 0, none⟩ (.int .i64 x.at_)).setCell ⟨gb, 1, none⟩ (.int .i64 x.urg)).setCell ⟨gb, 2, none⟩ (.int .i64 x.id)).setCell ⟨gb, 3, none⟩ (.int .i64 x.no))) := ⟨below_set (below_set (below_set (below_set HBb.out HGE.out) HGE.out) HGE.out) HGE.out⟩
   have BX3 : Aside0 ((((((wb.setCell ⟨gb, 0, none⟩ (.int .i64 x.at_)).setCell ⟨gb, 1, none⟩ (.int .i64 x.urg)).setCell ⟨gb, 2, none⟩ (.int .i64 x.id)).setCell ⟨gb, 3, none⟩ (.int .i64 x.no)) : World).heap[gb]? = some (.cells #[.int .i64 x.at_, .int .i64 x.urg, .int .i64 x.id, .int .i64 x.no] 61 (0, 0))) := ⟨by
    have := blk_set (blk_set (blk_set (blk_set BX.out 0 (.int .i64 x.at_)) 1 (.int .i64 x.urg)) 2 (.int .i64 x.id)) 3 (.int .i64 x.no)
    simpa using this⟩
   clear hz0 hzf0 hz1 hzf1 hz2 hzf2 hz3 hzf3 c0 c1 c2 c3
   generalize ((((wb.setCell ⟨gb, 0, none⟩ (.int .i64 x.at_)).setCell ⟨gb, 1, none⟩ (.int .i64 x.urg)).setCell ⟨gb, 2, none⟩ (.int .i64 x.id)).setCell ⟨gb, 3, none⟩ (.int .i64 x.no)) = W3 at HB3 BX3 ⊢
   have HH3 := Aside0.mk (HHr.out.below HB3.out)
   have y3 : W3.cell? ⟨gb, 3, none⟩ = some (.int .i64 x.no) := (blk_cell BX3.out 3).trans rfl
   by_cases hq : x.no = no
   ·have e1 : (x.no == no) = true := beq_iff_eq.2 hq
    have HQ := Aside0.mk hq
    clear hq
    go_wp2_with (go_at_call 34; refine (heapRemove_calls W W3 g fn hfn _ l HH3.out i (by rw [← HN.out]; exact HI.out) (by rw [← HN.out]; exact hlen)).mono ?_; rintro e w4 ⟨rfl, v4, l4, hp, hs, hperm⟩; rw [← HX.out] at hperm; have H4 := Aside0.mk hp; have HS4 := Aside0.mk ((Step.of_below (below_step HB.out HB3.out) g _).trans hs); have HPM := Aside0.mk hperm; clear hp hs hperm)
    go_ret
    exact .inr ⟨rfl, v4, l4, x, HMEM.out, HQ.out, H4.out, HS4.out, HPM.out⟩
   ·have e1 : (x.no == no) = false := beq_eq_false_iff_ne.2 hq
    have HQ := Aside0.mk hq
    clear hq
    go_wp2
    go_roundw
    case rel =>
     refine ⟨i + 1, by go_num, HI.out, ⟨below_step HB.out HB3.out⟩, ⟨fun j hj => ?_⟩⟩
     by_cases e : j = i
     ·rw [e, ← HX.out]; exact HQ.out
     ·exact HNO.out j (by omega)
    case measure => have := HI.out; simp [intOf]; omega
  ·obtain rfl : i = n := by omega
   have b1 : decide ((i : Int) < (i : Int)) = false := decide_eq_false (by omega)
   go_wp2
   go_ret
   refine .inl ⟨rfl, HB.out, fun y hy => ?_⟩
   obtain ⟨j, hj, rfl⟩ := List.getElem_of_mem hy
   have := HNO.out j (by rw [HN.out]; exact hj)
   rw [List.getD_eq_getElem?_getD, List.getElem?_eq_getElem hj] at this
   exact this
set_option maxHeartbeats 8000000 in
set_option maxRecDepth 100000 in
theorem qdrop_calls (W w : World) (gq gw gd : Nat) (q : Qs) (vw vd : Value) (lw ld : List Tk) (h : QX W w gq gw gd q vw vd lw ld) (k : Nat) (ho : DueSpec.Ok k q) (no : Int) : Calls Try.prog 15 #[.pointer (some ⟨gq, 0, none⟩), .int .i64 no] w fun e w' => e = .returned (.int .i64 (dropQ q no).2) ∧ ∃ vw' vd' lw' ld', QX W w' gq gw gd (dropQ q no).1 vw' vd' lw' ld' ∧ QStep w w' gq gw gd vw vd vw' vd' := by
 have f0 : w.cell? ⟨gq, 0, none⟩ = some (.pointer (some ⟨gw, 0, none⟩)) := (blk_cell h.o.blk 0).trans rfl
 have HH := Aside0.mk h
 have HO := Aside0.mk ho
 have HLN : Aside0 (lw.length + ld.length ≤ 1024) := ⟨by rw [h.r.len]; exact ho.len⟩
 clear h ho
 go_enter Try.func15, Try.ntmps15
 go_wp2_with (first | (go_at_call 29; (with_reducible refine (tdrop_calls W w gw 23 (.inl rfl) vw lw HH.out.o.wt (by have := HLN.out; omega) no).mono ?_); rintro e w1 (⟨rfl, hb, hno⟩ | ⟨rfl, vw1, lw1, x, hx, hxn, hp, hs, hperm⟩); (have H1 := Aside0.mk (HH.out.below hb); have HS1 := Aside0.mk (QStep.of_below hb gq gw gd vw vd); have HNO1 := Aside0.mk hno; have y1 : w1.cell? ⟨gq, 1, none⟩ = some (.pointer (some ⟨gd, 0, none⟩)) := (blk_cell H1.out.o.blk 1).trans rfl; clear hb hno f0); rotate_left; (have H1 := Aside0.mk (HH.out.o.turn_w hp hs); have HS1 := Aside0.mk (QStep.of_w (gq := gq) (gd := gd) (vd := vd) hs); have HF1 := Aside0.mk (HH.out.r.drop_w HO.out hx hperm); rw [hxn] at HF1; clear hp hs hperm hx hxn f0); rotate_left) | (go_at_call 29; (with_reducible refine (tdrop_calls W w1 gd 24 (.inr rfl) vd ld H1.out.o.du (by have := HLN.out; omega) no).mono ?_); rintro e w2 (⟨rfl, hb, hno⟩ | ⟨rfl, vd2, ld2, x, hx, hxn, hp, hs, hperm⟩); (have H2 := Aside0.mk (H1.out.below hb); have HS2 := Aside0.mk (HS1.out.trans (QStep.of_below hb _ _ _ _ _)); have HF2 := Aside0.mk (HH.out.r.drop_none HNO1.out hno); clear hb hno); rotate_left; (have H2 := Aside0.mk (H1.out.o.turn_d hp hs); have HS2 := Aside0.mk (HS1.out.trans (QStep.of_d hs)); have HF2 := Aside0.mk (H1.out.r.drop_d HO.out hx hperm); rw [hxn] at HF2; clear hp hs hperm hx hxn); rotate_left))
 ·go_ret
  rw [HF2.out]
  exact ⟨rfl, vw, vd, lw, ld, H2.out, HS2.out⟩
 ·go_ret
  rw [HF2.out.1]
  exact ⟨rfl, vw, vd2, lw, ld2, ⟨H2.out, HF2.out.2⟩, HS2.out⟩
 ·go_ret
  rw [HF1.out.1]
  exact ⟨rfl, vw1, vd, lw1, ld, ⟨H1.out, HF1.out.2⟩, HS1.out⟩
def mnp (l : List Tk) (i : Nat) : Int := (l.take i).foldl (fun m y => min m y.at_) (l.getD 0 t0).at_
theorem mnp_succ {l : List Tk} {i : Nat} (h : i < l.length) : mnp l (i + 1) = min (mnp l i) (l.getD i t0).at_ := by
 unfold mnp
 rw [List.take_succ_eq_append_getElem h, List.foldl_append, List.getD_eq_getElem?_getD (i := i), List.getElem?_eq_getElem h]
 rfl
theorem next_due {k : Nat} {lw ld : List Tk} {q : Qs} (h : Rel lw ld q) (hp : 0 < ld.length) : nextQ q = (mnp ld ld.length, true) := by
 unfold nextQ mnp
 rw [List.take_length]
 have h0 : ld.getD 0 t0 ∈ ld := by rw [List.getD_eq_getElem?_getD, List.getElem?_eq_getElem hp]; exact List.getElem_mem _
 obtain ⟨⟨g1, g2⟩, g3⟩ := min_fold ld (ld.getD 0 t0).at_
 refine minAt_of ?_ (fun y hy => ?_)
 ·rcases g3 with e | ⟨y, hy, e⟩
  ·exact ⟨_, h.perm.mem_iff.1 (List.mem_append_right _ h0), e.symm⟩
  ·exact ⟨y, h.perm.mem_iff.1 (List.mem_append_right _ hy), e.symm⟩
 ·rcases List.mem_append.1 (h.perm.mem_iff.2 hy) with hy | hy
  ·have := h.wait y hy
   have := h.due _ h0
   omega
  ·exact g2 y hy
theorem next_wait {lw : List Tk} {q : Qs} (h : Rel lw [] q) (hh : Heap (LE 23) t0 lw.length lw) (hp : 0 < lw.length) : nextQ q = ((lw.getD 0 t0).at_, true) := by
 have h0 : lw.getD 0 t0 ∈ lw := by rw [List.getD_eq_getElem?_getD, List.getElem?_eq_getElem hp]; exact List.getElem_mem _
 refine minAt_of ⟨_, h.perm.mem_iff.1 (List.mem_append_left _ h0), rfl⟩ (fun y hy => ?_)
 rcases List.mem_append.1 (h.perm.mem_iff.2 hy) with hy | hy
 ·have h1 : earlyT y (lw.getD 0 t0) = false := hh.least (LE_rf 23) (LE_tr 23) hy
  rw [early_not] at h1
  omega
 ·cases hy
set_option maxHeartbeats 8000000 in
set_option maxRecDepth 100000 in
theorem qnext_calls (W w : World) (gq gw gd : Nat) (q : Qs) (vw vd : Value) (lw ld : List Tk) (h : QX W w gq gw gd q vw vd lw ld) (k : Nat) (ho : DueSpec.Ok k q) : Calls Try.prog 21 #[.pointer (some ⟨gq, 0, none⟩)] w fun e w' => e = .returned (.tuple #[.int .i64 (nextQ q).1, .bool (nextQ q).2]) ∧ Below w.heap.size w w' := by
 have hu61 := Try.underlying61
 have f0 : w.cell? ⟨gq, 0, none⟩ = some (.pointer (some ⟨gw, 0, none⟩)) := (blk_cell h.o.blk 0).trans rfl
 have f1 : w.cell? ⟨gq, 1, none⟩ = some (.pointer (some ⟨gd, 0, none⟩)) := (blk_cell h.o.blk 1).trans rfl
 have HH := Aside0.mk h
 obtain ⟨n, hn⟩ : ∃ n, n = ld.length := ⟨_, rfl⟩
 obtain ⟨m, hm⟩ : ∃ m, m = lw.length := ⟨_, rfl⟩
 have HN := Aside0.mk hn
 have HM := Aside0.mk hm
 have hnl : n ≤ 1024 := by have := h.r.len; have := ho.len; omega
 have hml : m ≤ 1024 := by have := h.r.len; have := ho.len; omega
 clear ho
 by_cases h0 : 0 < n
 ·have d0 : decide (0 < (n : Int)) = true := decide_eq_true (by omega)
  have d3 : (0 < n) = True := eq_true h0
  obtain ⟨ga, c, hv, hc⟩ := first_cell h.o.du.ht (by omega)
  rw [← hn] at hv
  subst hv
  have HP0 := Aside0.mk h0
  have HR : Aside0 (nextQ q = (mnp ld n, true)) := ⟨by rw [hn]; exact next_due (k := 0) HH.out.r (by omega)⟩
  rw [HR.out]
  clear h hn hm h0 hc f0
  go_enter Try.func21, Try.ntmps21
  go_wp2_with (go_at_call 27; refine (len_cast HH.out.o.du.ht HN.out.symm).mono ?_; rintro e w1 ⟨rfl, hb⟩; have H1 := Aside0.mk (HH.out.below hb); have HB1 := Aside0.mk hb; have y1 : w1.cell? ⟨gq, 1, none⟩ = some (.pointer (some ⟨gd, 0, none⟩)) := (blk_cell H1.out.o.blk 1).trans rfl; have z0 : w1.cell? ⟨gd, 0, none⟩ = some (.slice (some ⟨ga, 0, none⟩) n c) := (blk_cell H1.out.o.du.ht.blk 0).trans rfl; have z4 := (T4_cell H1.out.o.du.ht.row 0 HP0.out).1; rw [Nat.zero_mul] at z4; clear hb f1)
  go_loopw [2, 30] (fun v2 v30 wr => ∃ i : Nat, v30 = .int .i64 i ∧ i ≤ n ∧ v2 = .int .i64 (mnp ld i) ∧ Aside0 (Below w.heap.size w wr)) (fun _ v30 _ => n - (intOf v30).toNat)
  case atStart => exact ⟨0, rfl, Nat.zero_le _, rfl, HB1⟩
  case round =>
   clear y1 z0 z4
   obtain ⟨i, rfl, hi, rfl, HB⟩ := hrel
   have HHr := Aside0.mk (HH.out.below HB.out)
   by_cases hlt : i < n
   ·obtain ⟨c0, c1, c2, c3, _⟩ := T4_cell HHr.out.o.du.ht.row i hlt
    have HS := Aside0.mk (mnp_succ (l := ld) (i := i) (by rw [← HN.out]; exact hlt))
    obtain ⟨x, hx⟩ : ∃ x, x = ld.getD i t0 := ⟨_, rfl⟩
    rw [← hx] at c0 c1 c2 c3 HS
    have HI := Aside0.mk hlt
    have b1 : decide ((i : Int) < (n : Int)) = true := decide_eq_true (by omega)
    have b2 : decide (i < n) = true := decide_eq_true hlt
    obtain ⟨mm, hmm⟩ : ∃ mm, mm = mnp ld i := ⟨_, rfl⟩
    rw [← hmm] at HS ⊢
    have hm1 : (if x.at_ < mm then x.at_ else mm) = min mm x.at_ := by split <;> omega
    have hm2 : (if mm < x.at_ then mm else x.at_) = min mm x.at_ := by split <;> omega
    clear hx hmm
    go_upto_region 6 with ((with_reducible refine gate_dst (N := 5) rfl ?_); refine box_event ?hg (N := 5) ?hd (cs := #[.int .i64 0, .int .i64 0, .int .i64 0, .int .i64 0]) (t := 61) ?hr ?_; (case hd => rfl); (case hg => rfl); (case hr => first | (go_simp; done) | (go_simp; rfl)); intro gb hgb wb hbox hb; have BX := Aside0.mk hbox; have HGE := Aside0.mk (show wr.heap.size ≤ gb from Nat.le_of_eq hgb.symm); have HBb := Aside0.mk hb; have hz0 := (blk_cell hbox 0).trans rfl; have hzf0 := blk_frozen hbox 0; have hz1 := (blk_cell hbox 1).trans rfl; have hzf1 := blk_frozen hbox 1; have hz2 := (blk_cell hbox 2).trans rfl; have hzf2 := blk_frozen hbox 2; have hz3 := (blk_cell hbox 3).trans rfl; have hzf3 := blk_frozen hbox 3; clear hgb hbox hb)
    have HB3 : Aside0 (Below wr.heap.size wr ((((wb.setCell ⟨gb, 0, none⟩ (.int .i64 x.at_)).setCell ⟨gb, 1, none⟩ (.int .i64 x.urg)).setCell ⟨gb, 2, none⟩ (.int .i64 x.id)).setCell ⟨gb, 3, none⟩ (.int .i64 x.no))) := ⟨below_set (below_set (below_set (below_set HBb.out HGE.out) HGE.out) HGE.out) HGE.out⟩
    have BX3 : Aside0 ((((((wb.setCell ⟨gb, 0, none⟩ (.int .i64 x.at_)).setCell ⟨gb, 1, none⟩ (.int .i64 x.urg)).setCell ⟨gb, 2, none⟩ (.int .i64 x.id)).setCell ⟨gb, 3, none⟩ (.int .i64 x.no)) : World).heap[gb]? = some (.cells #[.int .i64 x.at_, .int .i64 x.urg, .int .i64 x.id, .int .i64 x.no] 61 (0, 0))) := ⟨by
     have := blk_set (blk_set (blk_set (blk_set BX.out 0 (.int .i64 x.at_)) 1 (.int .i64 x.urg)) 2 (.int .i64 x.id)) 3 (.int .i64 x.no)
     simpa using this⟩
    clear hz0 hzf0 hz1 hzf1 hz2 hzf2 hz3 hzf3 c0 c1 c2 c3
    generalize ((((wb.setCell ⟨gb, 0, none⟩ (.int .i64 x.at_)).setCell ⟨gb, 1, none⟩ (.int .i64 x.urg)).setCell ⟨gb, 2, none⟩ (.int .i64 x.id)).setCell ⟨gb, 3, none⟩ (.int .i64 x.no)) = W3 at HB3 BX3 ⊢
    have y0 : W3.cell? ⟨gb, 0, none⟩ = some (.int .i64 x.at_) := (blk_cell BX3.out 0).trans rfl
    go_wp2
    go_roundw
    case rel => exact ⟨i + 1, by go_num, HI.out, by rw [HS.out], ⟨below_step HB.out HB3.out⟩⟩
    case measure => have := HI.out; simp [intOf]; omega
   ·obtain rfl : i = n := by omega
    have b1 : decide ((i : Int) < (i : Int)) = false := decide_eq_false (by omega)
    go_wp2
    exact bodyPost_ret (v := .tuple #[.int .i64 (mnp ld i), .bool true]) (by simp [results, Try.results21, go_sem]) rfl ⟨rfl, HB.out⟩
 ·have d0 : decide (0 < (n : Int)) = false := decide_eq_false (by omega)
  have d0' : decide (0 < n) = false := decide_eq_false h0
  obtain rfl : ld = [] := List.eq_nil_of_length_eq_zero (by omega)
  by_cases h1 : 0 < m
  ·have d1 : decide (0 < (m : Int)) = true := decide_eq_true (by omega)
   have d1' : decide (0 < m) = true := decide_eq_true h1
   have d3 : (0 < m) = True := eq_true h1
   obtain ⟨ga, c, hv, hc⟩ := first_cell h.o.wt.ht (by omega)
   rw [← hm] at hv
   subst hv
   have HP1 := Aside0.mk h1
   have HR := Aside0.mk (next_wait h.r h.o.wt.heap (by omega))
   rw [HR.out]
   clear h hn hm h0 h1 hc
   obtain ⟨z, hz⟩ : ∃ z, z = (lw.getD 0 t0).at_ := ⟨_, rfl⟩
   rw [← hz]
   have HZ := Aside0.mk hz
   clear hz
   go_enter Try.func21, Try.ntmps21
   go_wp2_with (first | (go_at_call 27; (with_reducible refine (len_cast HH.out.o.du.ht HN.out.symm).mono ?_); rintro e w1 ⟨rfl, hb⟩; have H1 := Aside0.mk (HH.out.below hb); have HB1 := Aside0.mk hb; have y1 : w1.cell? ⟨gq, 0, none⟩ = some (.pointer (some ⟨gw, 0, none⟩)) := (blk_cell H1.out.o.blk 0).trans rfl; clear hb f0 f1) | (go_at_call 27; (with_reducible refine (len_cast H1.out.o.wt.ht HM.out.symm).mono ?_); rintro e w2 ⟨rfl, hb⟩; have H2 := Aside0.mk (H1.out.below hb); have HB2 := Aside0.mk (below_step HB1.out hb); have y1 : w2.cell? ⟨gq, 0, none⟩ = some (.pointer (some ⟨gw, 0, none⟩)) := (blk_cell H2.out.o.blk 0).trans rfl; have z0 : w2.cell? ⟨gw, 0, none⟩ = some (.slice (some ⟨ga, 0, none⟩) m c) := (blk_cell H2.out.o.wt.ht.blk 0).trans rfl; have z4 := (T4_cell H2.out.o.wt.ht.row 0 HP1.out).1; rw [Nat.zero_mul, ← HZ.out] at z4; clear hb))
   exact bodyPost_ret (v := .tuple #[.int .i64 z, .bool true]) (by simp [results, Try.results21, go_sem]) rfl ⟨rfl, HB2.out⟩
  ·have d1 : decide (0 < (m : Int)) = false := decide_eq_false (by omega)
   have d1' : decide (0 < m) = false := decide_eq_false h1
   obtain rfl : lw = [] := List.eq_nil_of_length_eq_zero (by omega)
   have HR : Aside0 (nextQ q = (0, false)) := ⟨by
    have : q.L = [] := List.Perm.nil_eq (by simpa using h.r.perm) |>.symm
    unfold nextQ; rw [this]; rfl⟩
   rw [HR.out]
   clear h hn hm h0 h1
   go_enter Try.func21, Try.ntmps21
   go_wp2_with (first | (go_at_call 27; (with_reducible refine (len_cast HH.out.o.du.ht HN.out.symm).mono ?_); rintro e w1 ⟨rfl, hb⟩; have H1 := Aside0.mk (HH.out.below hb); have HB1 := Aside0.mk hb; have y1 : w1.cell? ⟨gq, 0, none⟩ = some (.pointer (some ⟨gw, 0, none⟩)) := (blk_cell H1.out.o.blk 0).trans rfl; clear hb f0 f1) | (go_at_call 27; (with_reducible refine (len_cast H1.out.o.wt.ht HM.out.symm).mono ?_); rintro e w2 ⟨rfl, hb⟩; have HB2 := Aside0.mk (below_step HB1.out hb); clear hb))
   exact bodyPost_ret (v := .tuple #[.int .i64 0, .bool false]) (by simp [results, Try.results21, go_sem]) rfl ⟨rfl, HB2.out⟩
end Go.Proofs.Ytacceeefcelkhaa.Al

/- Plain lemmas on bytes, on wraps and on bits, without the program. -/
namespace Go.Proofs.Ytacceeefcelkhaa.Base
open Go.RowKit Go.Proofs.YtacceeefcelkhaaW.PrintWords

theorem Ev.pos {α : Type} {c : Prop} [Decidable c] {f g : Nat → Option α} {r : α} (h : c) (k : Ev f r) : Ev (fun n => if c then f n else g n) r := by
 simpa only [if_pos h] using k
theorem Ev.neg {α : Type} {c : Prop} [Decidable c] {f g : Nat → Option α} {r : α} (h : ¬ c) (k : Ev g r) : Ev (fun n => if c then f n else g n) r := by
 simpa only [if_neg h] using k
theorem Ev.some_bind {α β : Type} {a : α} {f : Nat → α → Option β} {r : β} (k : Ev (fun n => f n a) r) : Ev (fun n => (some a).bind (f n)) r := k

theorem wrap_id {n : Int} (h0 : -9223372036854775808 ≤ n) (h1 : n < 9223372036854775808) : wrap64 n = n := by
 unfold wrap64; omega

theorem ofInt_i64 (a : Nat) (ha : a < 9223372036854775808) : (BitVec.ofInt 64 (a : Int)).toNat = a := by
 rw [BitVec.ofInt_natCast, BitVec.toNat_ofNat]; exact Nat.mod_eq_of_lt (by omega)
theorem xor_i64_nat (a b : Nat) (ha : a < 9223372036854775808) (hb : b < 9223372036854775808) : Go.bits .xor .i64 (a : Int) (b : Int) = ((a ^^^ b : Nat) : Int) := by
 have hx : a ^^^ b < 2 ^ 63 := Nat.xor_lt_two_pow (by omega) (by omega)
 show IntKind.i64.wrap ((BitVec.ofInt 64 (a : Int) ^^^ BitVec.ofInt 64 (b : Int)).toNat : Int) = _
 rw [BitVec.toNat_xor, ofInt_i64 a ha, ofInt_i64 b hb, IntKind.wrap_i64]
 omega
theorem or_i64_nat (a b : Nat) (ha : a < 9223372036854775808) (hb : b < 9223372036854775808) : Go.bits .or .i64 (a : Int) (b : Int) = ((a ||| b : Nat) : Int) := by
 have hx : a ||| b < 2 ^ 63 := Nat.or_lt_two_pow (by omega) (by omega)
 show IntKind.i64.wrap ((BitVec.ofInt 64 (a : Int) ||| BitVec.ofInt 64 (b : Int)).toNat : Int) = _
 rw [BitVec.toNat_or, ofInt_i64 a ha, ofInt_i64 b hb, IntKind.wrap_i64]
 omega
theorem and_i64_nat (a b : Nat) (ha : a < 9223372036854775808) (hb : b < 9223372036854775808) : Go.bits .and .i64 (a : Int) (b : Int) = ((a &&& b : Nat) : Int) := by
 have hx : a &&& b < 2 ^ 63 := Nat.and_lt_two_pow _ (by omega)
 show IntKind.i64.wrap ((BitVec.ofInt 64 (a : Int) &&& BitVec.ofInt 64 (b : Int)).toNat : Int) = _
 rw [BitVec.toNat_and, ofInt_i64 a ha, ofInt_i64 b hb, IntKind.wrap_i64]
 omega

/-- A string's bytes. -/
def B (s : ByteArray) : List UInt8 := s.data.toList
theorem B_len (s : ByteArray) : (B s).length = s.size := data_length s
theorem B_inj {s t : ByteArray} (h : B s = B t) : s = t := by
 cases s; cases t; simp only [B] at h; simpa [Array.toList_inj] using h
theorem B_append (s t : ByteArray) : B (s ++ t) = B s ++ B t := by simp [B]
theorem B_nums (l : List Int) : B (strOfNums l) = l.map fun n => UInt8.ofNat n.toNat := rfl
theorem B_extract (s : ByteArray) (i j : Nat) : B (s.extract i j) = ((B s).take j).drop i := by
 simp [B, ByteArray.data_extract, List.extract_eq_take_drop, List.drop_take]
theorem B_empty : B (⟨#[]⟩ : ByteArray) = [] := rfl
theorem bt_B (s : ByteArray) (i : Nat) (h : i < (B s).length) : bt s (i : Int) = (((B s)[i]).toNat : Int) := by
 have h' : i < s.size := by rw [← B_len]; exact h
 unfold bt
 simp only [Int.toNat_natCast, h', dif_pos]
 rfl
theorem B_mk (l : List UInt8) : B ⟨l.toArray⟩ = l := by simp [B]
theorem toList_loop (s : ByteArray) : ∀ (d i : Nat) (r : List UInt8), s.size - i = d → ByteArray.toList.loop s i r = r.reverse ++ (B s).drop i
 |0, i, r, h => by
  unfold ByteArray.toList.loop
  rw [if_neg (by omega), List.drop_of_length_le (by rw [B_len]; omega), List.append_nil]
 |d + 1, i, r, h => by
  have hi : i < s.size := by omega
  unfold ByteArray.toList.loop
  rw [if_pos hi, toList_loop s d (i + 1) _ (by omega)]
  have e : (B s).drop i = s.get! i :: (B s).drop (i + 1) := by
   rw [List.drop_eq_getElem_cons (by rw [B_len]; exact hi)]
   congr 1
   simp [B, ByteArray.get!, hi]
  rw [e]
  simp
theorem toList_eq (s : ByteArray) : s.toList = B s := by
 unfold ByteArray.toList
 rw [toList_loop s _ 0 [] rfl]
 simp
end Go.Proofs.Ytacceeefcelkhaa.Base

/- One function of the program comes to what its plain twin says. This text began as the kit's own print (print.py, made by cprint.sh) and was turned by split.py: it is no printed file. -/
namespace Go.Proofs.Ytacceeefcelkhaa.Al
open Go.RowKit Go.Proofs.YtacceeefcelkhaaW.PrintWords Go.Proofs.YtacceeefcelkhaaW.PrintLast Go.Proofs.YtacceeefcelkhaaW.PrintMore
attribute [local go_sem] max2_int min2_int max_two min_two max_three min_three max_four min_four   -- for this text's walks alone
set_option linter.unusedVariables false
set_option linter.unusedSimpArgs false

/-! ### corncribbook_Among: function 9 -/
def corncribbook_Among.f (a0 : Int) (a1 : Int) : Option (Int) := if a1 = 0 then (none) else (some (Int.tmod (wrap64 ((Int.tmod a0 a1) + a1)) a1))
set_option maxHeartbeats 8000000 in
set_option maxRecDepth 100000 in
theorem corncribbook_Among.calls (a0 : Int) (a1 : Int) (r : Int) (w : World) (h : corncribbook_Among.f a0 a1 = some r) :
  Calls Try.prog 9 #[.int .i64 a0, .int .i64 a1] w fun e w' => e = .returned (.int .i64 r) ∧ Drawn0 w w' := by
 have H : (if a1 = 0 then (none) else (some (Int.tmod (wrap64 ((Int.tmod a0 a1) + a1)) a1))) = some r := h
 clear h
 by_cases c3 : a1 = 0
 ·rw [if_pos c3] at H
  exact absurd H (by simp)
 ·rw [if_neg c3] at H
  have c3b0 : (a1 == 0) = false := beq_eq_false_iff_ne.mpr c3
  have c3b1 : (a1 != 0) = true := bne_iff_ne.mpr c3
  obtain rfl := Option.some.inj H
  go_enter Try.func9, Try.ntmps9
  go_wp2
  go_ret
  exact ⟨by first | rfl | (simp; done) | (simp [*]; done), by repeat (first | exact Drawn0.refl _ | apply Drawn0.step)⟩

-- NOT PRINTED: function 11 (due_Queue_Now)

-- NOT PRINTED: function 3 (corncriblaw14_DueAll)

-- NOT PRINTED: function 34 (heap_Remove)

-- NOT PRINTED: function 29 (due_tasks_drop)

-- NOT PRINTED: function 15 (due_Queue_Drop)

-- NOT PRINTED: function 4 (corncriblaw14_DueDrops)

-- NOT PRINTED: function 5 (corncriblaw14_DueFull)

end Go.Proofs.Ytacceeefcelkhaa.Al

/- Among: a number within 0 .. m-1. -/
namespace Go.Proofs.Ytacceeefcelkhaa.Amg
open Go.RowKit Go.Proofs.Ytacceeefcelkhaa.Base Go.Proofs.Ytacceeefcelkhaa.Al Go.Proofs.YtacceeefcelkhaaW.PrintWords
set_option linter.unusedVariables false
set_option linter.unusedSimpArgs false
theorem among_eq (a n : Int) (h0 : 0 < n) (hn : n ≤ 4611686018427387904) : corncribbook_Among.f a n = some (a % n) := by
 unfold corncribbook_Among.f
 rw [if_neg (by omega)]
 have h1 : -n < Int.tmod a n ∧ (Int.tmod a n) % n = a % n := by
  rcases Int.le_total 0 a with ha | ha
  ·rw [Int.tmod_eq_emod_of_nonneg ha]
   have := Int.emod_nonneg a (by omega : n ≠ 0)
   exact ⟨by omega, Int.emod_emod_of_dvd _ (Int.dvd_refl _)⟩
  ·obtain ⟨b, rfl⟩ : ∃ b, a = -b := ⟨-a, by omega⟩
   rw [Int.neg_tmod, Int.tmod_eq_emod_of_nonneg (by omega)]
   have := Int.emod_lt_of_pos b h0
   refine ⟨by omega, ?_⟩
   rw [Int.neg_emod_eq_sub_emod, Int.neg_emod_eq_sub_emod, Int.sub_emod_emod]
 have h2 : Int.tmod a n < n := Int.tmod_lt_of_pos a h0
 obtain ⟨h1, h3⟩ := h1
 rw [wrap_id (by omega) (by omega), Int.tmod_eq_emod_of_nonneg (by omega), Int.add_emod_right, h3]
end Go.Proofs.Ytacceeefcelkhaa.Amg

/- A queue told by its list alone. -/
namespace Go.Proofs.Ytacceeefcelkhaa.Al
open Go.RowKit Go.Proofs.Ytacceeefcelkhaa.DueHeap Go.Proofs.Ytacceeefcelkhaa.DueSpec Go.Proofs.YtacceeefcelkhaaW.PrintWords Go.Proofs.YtacceeefcelkhaaW.PrintLast Go.Proofs.YtacceeefcelkhaaW.PrintMore
set_option linter.unusedVariables false
set_option linter.unusedSimpArgs false
theorem amongq_calls (a n : Int) (h0 : 0 < n) (hn : n ≤ 4611686018427387904) (w : World) : Calls Try.prog 9 #[.int .i64 a, .int .i64 n] w fun e w' => e = .returned (.int .i64 (a % n)) ∧ Below w.heap.size w w' :=
 (corncribbook_Among.calls a n (a % n) w (Amg.among_eq a n h0 hn)).mono (by rintro e w' ⟨rfl, k, rfl⟩; exact ⟨rfl, pw_below_drewN (Below.refl _ _) k⟩)
section
variable {P : Program} {ops : Array Oper} {Q : Exit → Act → World → Prop} {rest : List Oper} {o : Oper} {a : Act}
theorem slice_event {W : World} (hgd : o.guard = none) {N : Tmp} (_hd : o.dst = some N) {cs : Array Value} {t : TypeId} {n : Nat}
  (hrun : (execOp a.eval o).run P W = .ok (.value (.slice (some ⟨W.heap.size, 0, none⟩) n n)) (W.alloc (.cells cs t (0, 0))))
  (h : ∀ g, g = W.heap.size → ∀ w1, w1.heap[g]? = some (.cells cs t (0, 0)) → Below W.heap.size W w1 → wpList P ops Q rest (a.put o.dst (.slice (some ⟨g, 0, none⟩) n n)) w1) : wpList P ops Q (o :: rest) a W :=
 Kd.event_run hgd hrun (h _ rfl _ (blk_new W _) (below_alloc (Below.refl _ _) _))
end
structure QZ (W w : World) (gq k : Nat) (q : Qs) : Prop where
 ok : DueSpec.Ok k q
 ex : ∃ gw gd vw vd lw ld, QX W w gq gw gd q vw vd lw ld
section
variable {W w w1 : World} {gq k : Nat} {q : Qs}
theorem QZ.bel (h : QZ W w gq k q) : Below W.heap.size W w := by
 obtain ⟨_, _, _, _, _, _, h⟩ := h.ex
 exact h.o.bel
theorem QZ.below (h : QZ W w gq k q) (hb : Below w.heap.size w w1) : QZ W w1 gq k q := by
 obtain ⟨gw, gd, vw, vd, lw, ld, hx⟩ := h.ex
 exact ⟨h.ok, gw, gd, vw, vd, lw, ld, hx.below hb⟩
theorem z_new (W w : World) (hB : Below W.heap.size W w) : Calls Try.prog 7 #[] w fun e w' => ∃ gq, e = .returned (.pointer (some ⟨gq, 0, none⟩)) ∧ QZ W w' gq 0 ⟨[], 0, 0⟩ ∧ Below w.heap.size w w' :=
 (qnew_calls W w hB).mono (by rintro e w' ⟨gq, gw, gd, rfl, hx, _, _, _, hb⟩; exact ⟨gq, rfl, ⟨Ok.empty, gw, gd, _, _, _, _, hx⟩, hb⟩)
theorem z_put (h : QZ W w gq k q) (hk : k ≤ 100000) (a u i : Int) : Calls Try.prog 10 #[.pointer (some ⟨gq, 0, none⟩), .int .i64 a, .int .i64 u, .int .i64 i] w fun e w' => e = .returned (.tuple #[.int .i64 (putQ q a u i).2.1, .int .i64 (putQ q a u i).2.2]) ∧ QZ W w' gq (k + 1) (putQ q a u i).1 := by
 obtain ⟨gw, gd, vw, vd, lw, ld, hx⟩ := h.ex
 exact (qput_calls W w gq gw gd q vw vd lw ld hx k h.ok hk a u i).mono (by rintro e w' ⟨rfl, vw', vd', lw', ld', hq, _⟩; exact ⟨rfl, h.ok.put_ a u i, gw, gd, vw', vd', lw', ld', hq⟩)
theorem z_go (h : QZ W w gq k q) (tt : Int) : Calls Try.prog 12 #[.pointer (some ⟨gq, 0, none⟩), .int .i64 tt] w fun e w' => e = .returned (.int .i64 (goQ q tt).2) ∧ QZ W w' gq k (goQ q tt).1 := by
 obtain ⟨gw, gd, vw, vd, lw, ld, hx⟩ := h.ex
 exact (qgo_calls W w gq gw gd q vw vd lw ld hx k h.ok tt).mono (by rintro e w' ⟨rfl, vw', vd', lw', ld', hq, _⟩; exact ⟨rfl, h.ok.go_ tt, gw, gd, vw', vd', lw', ld', hq⟩)
theorem z_take (h : QZ W w gq k q) : Calls Try.prog 13 #[.pointer (some ⟨gq, 0, none⟩)] w fun e w' => e = .returned (.tuple #[.int .i64 (takeQ q).2.1, .bool (takeQ q).2.2]) ∧ QZ W w' gq k (takeQ q).1 := by
 obtain ⟨gw, gd, vw, vd, lw, ld, hx⟩ := h.ex
 exact (qtake_calls W w gq gw gd q vw vd lw ld hx k h.ok).mono (by rintro e w' ⟨rfl, vw', vd', lw', ld', hq, _⟩; exact ⟨rfl, h.ok.take_, gw, gd, vw', vd', lw', ld', hq⟩)
theorem z_drop (h : QZ W w gq k q) (no : Int) : Calls Try.prog 15 #[.pointer (some ⟨gq, 0, none⟩), .int .i64 no] w fun e w' => e = .returned (.int .i64 (dropQ q no).2) ∧ QZ W w' gq k (dropQ q no).1 := by
 obtain ⟨gw, gd, vw, vd, lw, ld, hx⟩ := h.ex
 exact (qdrop_calls W w gq gw gd q vw vd lw ld hx k h.ok no).mono (by rintro e w' ⟨rfl, vw', vd', lw', ld', hq, _⟩; exact ⟨rfl, h.ok.drop_ no, gw, gd, vw', vd', lw', ld', hq⟩)
theorem z_len (h : QZ W w gq k q) : Calls Try.prog 14 #[.pointer (some ⟨gq, 0, none⟩)] w fun e w' => e = .returned (.int .i64 (q.L.length : Int)) ∧ QZ W w' gq k q := by
 obtain ⟨gw, gd, vw, vd, lw, ld, hx⟩ := h.ex
 have hl := hx.r.len
 refine (qlen_calls W w gq gw gd _ _ vw vd lw ld hx.o (by rw [hl]; have := h.ok.len; omega)).mono ?_
 rintro e w' ⟨rfl, hb⟩
 rw [hl]
 exact ⟨rfl, h.below hb⟩
theorem z_now (h : QZ W w gq k q) : Calls Try.prog 11 #[.pointer (some ⟨gq, 0, none⟩)] w fun e w' => e = .returned (.int .i64 q.now) ∧ QZ W w' gq k q := by
 obtain ⟨gw, gd, vw, vd, lw, ld, hx⟩ := h.ex
 exact (qnow_calls W w gq gw gd q vw vd lw ld hx).mono (by rintro e w' ⟨rfl, hb⟩; exact ⟨rfl, h.below hb⟩)
end
/-- A block of another type, which a queue's call leaves as it is. -/
theorem QStep.keepT {W w w1 : World} {gq gw gd : Nat} {q : Qs} {vw vd vw1 vd1 : Value} {lw ld : List Tk} (h : QX W w gq gw gd q vw vd lw ld) (hs : QStep w w1 gq gw gd vw vd vw1 vd1) {g t : Nat} {cs : Array Value} (hb : w.heap[g]? = some (.cells cs t (0, 0))) (h1 : t ≠ 56) (h2 : t ≠ 54) (h3 : t ≠ 61) : w1.heap[g]? = some (.cells cs t (0, 0)) :=
 (hs.keep g (blk_lt hb) (blk_ne hb h.o.blk h1) (blk_ne hb h.o.wt.ht.blk h2) (blk_ne hb h.o.du.ht.blk h2) (Ne.symm (Kd.R_ne h.o.wt.ht.row hb (Ne.symm h3))) (Ne.symm (Kd.R_ne h.o.du.ht.row hb (Ne.symm h3)))).trans hb
section
variable {W w : World} {gq k g t : Nat} {q : Qs} {cs : Array Value}
theorem zk_put (h : QZ W w gq k q) (hb : w.heap[g]? = some (.cells cs t (0, 0))) (a u i : Int) (hk : k ≤ 100000 ∧ t ≠ 56 ∧ t ≠ 54 ∧ t ≠ 61) : Calls Try.prog 10 #[.pointer (some ⟨gq, 0, none⟩), .int .i64 a, .int .i64 u, .int .i64 i] w fun e w' => e = .returned (.tuple #[.int .i64 (putQ q a u i).2.1, .int .i64 (putQ q a u i).2.2]) ∧ QZ W w' gq (k + 1) (putQ q a u i).1 ∧ w'.heap[g]? = some (.cells cs t (0, 0)) := by
 obtain ⟨gw, gd, vw, vd, lw, ld, hx⟩ := h.ex
 exact (qput_calls W w gq gw gd q vw vd lw ld hx k h.ok hk.1 a u i).mono (by rintro e w' ⟨rfl, vw', vd', lw', ld', hq, hs⟩; exact ⟨rfl, ⟨h.ok.put_ a u i, gw, gd, vw', vd', lw', ld', hq⟩, hs.keepT hx hb hk.2.1 hk.2.2.1 hk.2.2.2⟩)
theorem zk_take (h : QZ W w gq k q) (hb : w.heap[g]? = some (.cells cs 3 (0, 0))) : Calls Try.prog 13 #[.pointer (some ⟨gq, 0, none⟩)] w fun e w' => e = .returned (.tuple #[.int .i64 (takeQ q).2.1, .bool (takeQ q).2.2]) ∧ QZ W w' gq k (takeQ q).1 ∧ w'.heap[g]? = some (.cells cs 3 (0, 0)) := by
 obtain ⟨gw, gd, vw, vd, lw, ld, hx⟩ := h.ex
 exact (qtake_calls W w gq gw gd q vw vd lw ld hx k h.ok).mono (by rintro e w' ⟨rfl, vw', vd', lw', ld', hq, hs⟩; exact ⟨rfl, ⟨h.ok.take_, gw, gd, vw', vd', lw', ld', hq⟩, hs.keepT hx hb (by decide) (by decide) (by decide)⟩)
end
/-! #### the chapter's example -/
def qw0 : Qs := ⟨[], 0, 0⟩
def qw1 : Qs := ⟨[⟨5, 1, 7, 1⟩], 0, 1⟩
def qw2 : Qs := ⟨[⟨5, 1, 7, 1⟩, ⟨3, 1, 8, 2⟩], 0, 2⟩
def qw3 : Qs := ⟨[⟨5, 1, 7, 1⟩, ⟨3, 1, 8, 2⟩, ⟨4, 9, 9, 3⟩], 0, 3⟩
def qw4 : Qs := ⟨[⟨5, 1, 7, 1⟩, ⟨3, 1, 8, 2⟩, ⟨4, 9, 9, 3⟩], 5, 3⟩
def qw5 : Qs := ⟨[⟨5, 1, 7, 1⟩, ⟨3, 1, 8, 2⟩], 5, 3⟩
def qw6 : Qs := ⟨[⟨5, 1, 7, 1⟩], 5, 3⟩
def qw7 : Qs := ⟨[], 5, 3⟩
theorem wk1 : putQ qw0 5 1 7 = (qw1, 1, 0) := by rfl
theorem wk2 : putQ qw1 3 1 8 = (qw2, 2, 0) := by rfl
theorem wk3 : putQ qw2 4 9 9 = (qw3, 3, 0) := by rfl
theorem wk4 : takeQ qw3 = (qw3, 0, false) := by rfl
theorem wk5 : goQ qw3 5 = (qw4, 0) := by rfl
theorem wk6 : takeQ qw4 = (qw5, 9, true) := by rfl
theorem wk7 : takeQ qw5 = (qw6, 8, true) := by rfl
theorem wk8 : takeQ qw6 = (qw7, 7, true) := by rfl
end Go.Proofs.Ytacceeefcelkhaa.Al
