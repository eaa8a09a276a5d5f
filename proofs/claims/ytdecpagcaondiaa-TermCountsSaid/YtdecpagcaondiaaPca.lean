/- What the laws stand on, in one text: functions of the program by their contracts, and the plain mathematics behind them (15 of them). -/
import Derived.Test.YtdecpagcaondiaaProg
import Derived.Below
import Derived.Deep.Draws
import Derived.Deep.AppendLies
import Derived.Maps.AppendAt
import Derived.OwnWalk
import Derived.Laws.BytesArg
import Derived.Laws.MakeOwn
import Derived.Laws.OwnMore
import Derived.Deep.OwnRows
import Derived.Tactics
import Derived.Lib.ConvBytes
import Derived.Laws.Slices
import Derived.WalkKit
import Derived.KernelRfl
import Derived.RowKit3
import Derived.Deep.LoopGhost
import Derived.Deep.QuietTactic
import Derived.BigQuiet
import Derived.WideLaws
import Derived.Deep.DeepCutAuto
import Derived.Deep.CutBlock
import Derived.Deep.RegionHeld3
import Derived.Laws.Rows
import Derived.Lib.AppendStr
import Derived.ArgAppend
import Derived.Laws.IdiomCopy
import Derived.OrdersHeld
import Derived.Laws.BitsLemmas
import Derived.RowKit
import Derived.Test.YtdecpagcaondiaaWWords
import Derived.Test.YtdecpagcaondiaaWLast
import Derived.Test.YtdecpagcaondiaaWTab
import Derived.Test.YtdecpagcaondiaaWFour
import Derived.Test.YtdecpagcaondiaaWQPut
import Derived.Test.YtdecpagcaondiaaWApart
import Derived.Test.YtdecpagcaondiaaWArr
import Derived.Test.YtdecpagcaondiaaWZeros
import Derived.Test.YtdecpagcaondiaaWFoot
import Derived.Test.YtdecpagcaondiaaWKept
import Derived.Test.YtdecpagcaondiaaWShare
import Derived.Test.YtdecpagcaondiaaWN
import Derived.Test.YtdecpagcaondiaaWFootNe
import Derived.Test.YtdecpagcaondiaaWAt
import Derived.Test.YtdecpagcaondiaaWEqStruct
import Derived.Test.YtdecpagcaondiaaWRepsOne
import Derived.Test.YtdecpagcaondiaaWInv
import Derived.Test.YtdecpagcaondiaaWInvWords
import Derived.Test.YtdecpagcaondiaaWGuard
import Derived.Test.YtdecpagcaondiaaWNEv
import Derived.Test.YtdecpagcaondiaaWMore
import Derived.Laws.BitsAllLaws

namespace Go.Proofs.Ytdecpagcaondiaa.Al
open Go.RowKit Go.Proofs.YtdecpagcaondiaaW.PrintWords Go.Proofs.YtdecpagcaondiaaW.PrintLast Go.Proofs.YtdecpagcaondiaaW.PrintMore
attribute [local go_sem] max2_int min2_int max_two min_two max_three min_three max_four min_four   -- for this text's walks alone
set_option linter.unusedVariables false
set_option linter.unusedSimpArgs false



def errW : Option Int → Value
 | none => .nilIface
 | some c => .iface 0 (.int .i64 c)
theorem errW_none : errW none = .nilIface := rfl
theorem errW_some (c : Int) : errW (some c) = .iface 0 (.int .i64 c) := rfl

theorem info3 : (Try.prog.info? 3).map (fun i => (i.zero, i.size, i.bytes)) = some (some (.int .i64 0), 1, 8) := by kernel_rfl
theorem info4 : (Try.prog.info? 4).map (fun i => (i.zero, i.size, i.bytes)) = some (some (.bool false), 1, 1) := by kernel_rfl
theorem info9 : (Try.prog.info? 9).map (fun i => (i.zero, i.size, i.bytes)) = some (some (.string ⟨#[]⟩), 1, 16) := by kernel_rfl
theorem info34 : (Try.prog.info? 34).map (fun i => (i.zero, i.size, i.bytes)) = some (some (.agg #[(.int .i64 0), (.int .i64 0), (.int .i64 0), (.int .i64 0), (.int .i64 0), (.int .i64 0), (.string ⟨#[]⟩), (.slice none 0 0), (.slice none 0 0)]), 9, 112) := by kernel_rfl
theorem info70 : (Try.prog.info? 70).map (fun i => (i.zero, i.size, i.bytes)) = some (some (.agg #[(.string ⟨#[]⟩), (.string ⟨#[]⟩), (.bool false)]), 3, 40) := by kernel_rfl
-- the values' own types
def rd_L2 (xs : List (List ByteArray)) (i : Int) : (List ByteArray) := xs.getD i.toNat ([] : List ByteArray)
theorem at_L2 {w : World} {A : Option Addr} {n : Nat} {xs : List (List ByteArray)} (h : Kd.C (Kd.slice 9 Kd.string) w A n xs) (i : Int) (h0 : 0 ≤ i) (h1 : i < n) : ∃ ad A0 c0, A = some ad ∧ w.cell? (ad.add i.toNat) = some (.slice A0 (rd_L2 xs i).length c0) ∧ (rd_L2 xs i).length ≤ c0 ∧ Kd.string.C w A0 (rd_L2 xs i).length (rd_L2 xs i) := by
 obtain ⟨ad, c, e, _, hK, hc0⟩ := Kd.C_get h ([] : List ByteArray) i h0 h1
 have hc : ∀ j u, c[j]? = some u → w.cell? (ad.add (i.toNat * 1 + j)) = some u := hc0
 obtain ⟨A0, c0, rfl, l0, g0⟩ := hK
 exact ⟨ad, A0, c0, e, by have hq := hc 0 _ rfl; rwa [Nat.mul_one, Nat.add_zero] at hq, l0, g0⟩

/-! #### struct type 70 -/
structure S70 where
 f0 : ByteArray
 f1 : ByteArray
 f2 : Bool
def z70 : S70 := ⟨(⟨#[]⟩ : ByteArray), (⟨#[]⟩ : ByteArray), false⟩
def k70 : Kd S70 := Kd.iso (Kd.pair Kd.string (Kd.pair Kd.string Kd.bool)) (fun x : S70 => (x.f0, x.f1, x.f2))
theorem k70_open {w : World} {x : S70} {cs : List Value} (h : k70.K w x cs) : cs = [.string x.f0, .string x.f1, .bool x.f2] := by
 obtain ⟨_, _, rfl, rfl, ⟨_, _, rfl, rfl, rfl⟩⟩ := h
 exact rfl
theorem k70_openM {w : World} {base : Nat} {ok : Nat → Prop} {x : S70} {cs : List Value} (h : k70.M w base ok x cs) : cs = [.string x.f0, .string x.f1, .bool x.f2] := by
 obtain ⟨_, _, rfl, rfl, ⟨_, _, rfl, rfl, rfl⟩⟩ := h
 exact rfl
theorem k70_mk (w : World) (x : S70)  : k70.K w x [.string x.f0, .string x.f1, .bool x.f2] := ⟨[.string x.f0], [.string x.f1, .bool x.f2], rfl, rfl, ⟨[.string x.f1], [.bool x.f2], rfl, rfl, rfl⟩⟩
theorem k70_mkM (w : World) (base : Nat) (ok : Nat → Prop) (x : S70)  : k70.M w base ok x [.string x.f0, .string x.f1, .bool x.f2] := ⟨[.string x.f0], [.string x.f1, .bool x.f2], rfl, rfl, ⟨[.string x.f1], [.bool x.f2], rfl, rfl, rfl⟩⟩
theorem k70_mkF (W : World) (ok : Nat → Prop) (x : S70) : Kd.FK k70 W ok x [.string x.f0, .string x.f1, .bool x.f2] := fun W2 _ => k70_mk W2 x
def rd_T70 (xs : List S70) (i : Int) : S70 := xs.getD i.toNat z70
theorem at_T70 {w : World} {A : Option Addr} {n : Nat} {xs : List S70} (h : Kd.C k70 w A n xs) (i : Int) (h0 : 0 ≤ i) (h1 : i < n) : ∃ ad , A = some ad ∧ w.cell? (ad.add (i.toNat * 3)) = some (.string (rd_T70 xs i).f0) ∧ w.cell? ⟨(ad.add (i.toNat * 3)).block, (ad.add (i.toNat * 3)).off + 1, none⟩ = some (.string (rd_T70 xs i).f1) ∧ w.cell? ⟨(ad.add (i.toNat * 3)).block, (ad.add (i.toNat * 3)).off + 2, none⟩ = some (.bool (rd_T70 xs i).f2) := by
 obtain ⟨ad, c, e, _, hK, hc0⟩ := Kd.C_get h z70 i h0 h1
 have hc : ∀ j u, c[j]? = some u → w.cell? (ad.add (i.toNat * 3 + j)) = some u := hc0
 obtain rfl := k70_open hK
 exact ⟨ad, e, hc 0 _ rfl, by rw [← add_field _ _ 1 (by omega)]; exact hc 1 _ rfl, by rw [← add_field _ _ 2 (by omega)]; exact hc 2 _ rfl⟩

def rd_L5 (xs : List (List S70)) (i : Int) : (List S70) := xs.getD i.toNat ([] : List S70)
theorem at_L5 {w : World} {A : Option Addr} {n : Nat} {xs : List (List S70)} (h : Kd.C (Kd.slice 70 k70) w A n xs) (i : Int) (h0 : 0 ≤ i) (h1 : i < n) : ∃ ad A0 c0, A = some ad ∧ w.cell? (ad.add i.toNat) = some (.slice A0 (rd_L5 xs i).length c0) ∧ (rd_L5 xs i).length ≤ c0 ∧ k70.C w A0 (rd_L5 xs i).length (rd_L5 xs i) := by
 obtain ⟨ad, c, e, _, hK, hc0⟩ := Kd.C_get h ([] : List S70) i h0 h1
 have hc : ∀ j u, c[j]? = some u → w.cell? (ad.add (i.toNat * 1 + j)) = some u := hc0
 obtain ⟨A0, c0, rfl, l0, g0⟩ := hK
 exact ⟨ad, A0, c0, e, by have hq := hc 0 _ rfl; rwa [Nat.mul_one, Nat.add_zero] at hq, l0, g0⟩

/-! #### struct type 34 -/
structure S34 where
 f0 : Int
 f1 : Int
 f2 : Int
 f3 : Int
 f4 : Int
 f5 : Int
 f6 : ByteArray
 f7 : (List ByteArray)
 f8 : (List S70)
def z34 : S34 := ⟨(0 : Int), (0 : Int), (0 : Int), (0 : Int), (0 : Int), (0 : Int), (⟨#[]⟩ : ByteArray), ([] : List ByteArray), ([] : List S70)⟩
def k34 : Kd S34 := Kd.iso (Kd.pair (Kd.int .i64) (Kd.pair (Kd.int .i64) (Kd.pair (Kd.int .i64) (Kd.pair (Kd.int .i64) (Kd.pair (Kd.int .i64) (Kd.pair (Kd.int .i64) (Kd.pair Kd.string (Kd.pair (Kd.slice 9 Kd.string) (Kd.slice 70 k70))))))))) (fun x : S34 => (x.f0, x.f1, x.f2, x.f3, x.f4, x.f5, x.f6, x.f7, x.f8))
theorem k34_open {w : World} {x : S34} {cs : List Value} (h : k34.K w x cs) : ∃ A7 c7 A8 c8, cs = [.int .i64 x.f0, .int .i64 x.f1, .int .i64 x.f2, .int .i64 x.f3, .int .i64 x.f4, .int .i64 x.f5, .string x.f6, .slice A7 x.f7.length c7, .slice A8 x.f8.length c8] ∧ x.f7.length ≤ c7 ∧ Kd.string.C w A7 x.f7.length x.f7 ∧ x.f8.length ≤ c8 ∧ k70.C w A8 x.f8.length x.f8 := by
 obtain ⟨_, _, rfl, rfl, ⟨_, _, rfl, rfl, ⟨_, _, rfl, rfl, ⟨_, _, rfl, rfl, ⟨_, _, rfl, rfl, ⟨_, _, rfl, rfl, ⟨_, _, rfl, rfl, ⟨_, _, rfl, ⟨A7, c7, rfl, l7, g7⟩, ⟨A8, c8, rfl, l8, g8⟩⟩⟩⟩⟩⟩⟩⟩⟩ := h
 exact ⟨A7, c7, A8, c8, rfl, l7, g7, l8, g8⟩
theorem k34_openM {w : World} {base : Nat} {ok : Nat → Prop} {x : S34} {cs : List Value} (h : k34.M w base ok x cs) : ∃ v7 v8, cs = [.int .i64 x.f0, .int .i64 x.f1, .int .i64 x.f2, .int .i64 x.f3, .int .i64 x.f4, .int .i64 x.f5, .string x.f6, v7, v8] ∧ Kd.string.R 9 w base ok v7 x.f7 ∧ k70.R 70 w base ok v8 x.f8 := by
 obtain ⟨_, _, rfl, rfl, ⟨_, _, rfl, rfl, ⟨_, _, rfl, rfl, ⟨_, _, rfl, rfl, ⟨_, _, rfl, rfl, ⟨_, _, rfl, rfl, ⟨_, _, rfl, rfl, ⟨_, _, rfl, ⟨v7, rfl, g7⟩, ⟨v8, rfl, g8⟩⟩⟩⟩⟩⟩⟩⟩⟩ := h
 exact ⟨v7, v8, rfl, g7, g8⟩
theorem k34_mk (w : World) (x : S34) {A7 : Option Addr} {c7 : Nat} (l7 : x.f7.length ≤ c7) (g7 : Kd.string.C w A7 x.f7.length x.f7) {A8 : Option Addr} {c8 : Nat} (l8 : x.f8.length ≤ c8) (g8 : k70.C w A8 x.f8.length x.f8) : k34.K w x [.int .i64 x.f0, .int .i64 x.f1, .int .i64 x.f2, .int .i64 x.f3, .int .i64 x.f4, .int .i64 x.f5, .string x.f6, .slice A7 x.f7.length c7, .slice A8 x.f8.length c8] := ⟨[.int .i64 x.f0], [.int .i64 x.f1, .int .i64 x.f2, .int .i64 x.f3, .int .i64 x.f4, .int .i64 x.f5, .string x.f6, .slice A7 x.f7.length c7, .slice A8 x.f8.length c8], rfl, rfl, ⟨[.int .i64 x.f1], [.int .i64 x.f2, .int .i64 x.f3, .int .i64 x.f4, .int .i64 x.f5, .string x.f6, .slice A7 x.f7.length c7, .slice A8 x.f8.length c8], rfl, rfl, ⟨[.int .i64 x.f2], [.int .i64 x.f3, .int .i64 x.f4, .int .i64 x.f5, .string x.f6, .slice A7 x.f7.length c7, .slice A8 x.f8.length c8], rfl, rfl, ⟨[.int .i64 x.f3], [.int .i64 x.f4, .int .i64 x.f5, .string x.f6, .slice A7 x.f7.length c7, .slice A8 x.f8.length c8], rfl, rfl, ⟨[.int .i64 x.f4], [.int .i64 x.f5, .string x.f6, .slice A7 x.f7.length c7, .slice A8 x.f8.length c8], rfl, rfl, ⟨[.int .i64 x.f5], [.string x.f6, .slice A7 x.f7.length c7, .slice A8 x.f8.length c8], rfl, rfl, ⟨[.string x.f6], [.slice A7 x.f7.length c7, .slice A8 x.f8.length c8], rfl, rfl, ⟨[.slice A7 x.f7.length c7], [.slice A8 x.f8.length c8], rfl, ⟨A7, c7, rfl, l7, g7⟩, ⟨A8, c8, rfl, l8, g8⟩⟩⟩⟩⟩⟩⟩⟩⟩
theorem k34_mkM (w : World) (base : Nat) (ok : Nat → Prop) (x : S34) {v7 : Value} (g7 : Kd.string.R 9 w base ok v7 x.f7) {v8 : Value} (g8 : k70.R 70 w base ok v8 x.f8) : k34.M w base ok x [.int .i64 x.f0, .int .i64 x.f1, .int .i64 x.f2, .int .i64 x.f3, .int .i64 x.f4, .int .i64 x.f5, .string x.f6, v7, v8] := ⟨[.int .i64 x.f0], [.int .i64 x.f1, .int .i64 x.f2, .int .i64 x.f3, .int .i64 x.f4, .int .i64 x.f5, .string x.f6, v7, v8], rfl, rfl, ⟨[.int .i64 x.f1], [.int .i64 x.f2, .int .i64 x.f3, .int .i64 x.f4, .int .i64 x.f5, .string x.f6, v7, v8], rfl, rfl, ⟨[.int .i64 x.f2], [.int .i64 x.f3, .int .i64 x.f4, .int .i64 x.f5, .string x.f6, v7, v8], rfl, rfl, ⟨[.int .i64 x.f3], [.int .i64 x.f4, .int .i64 x.f5, .string x.f6, v7, v8], rfl, rfl, ⟨[.int .i64 x.f4], [.int .i64 x.f5, .string x.f6, v7, v8], rfl, rfl, ⟨[.int .i64 x.f5], [.string x.f6, v7, v8], rfl, rfl, ⟨[.string x.f6], [v7, v8], rfl, rfl, ⟨[v7], [v8], rfl, ⟨v7, rfl, g7⟩, ⟨v8, rfl, g8⟩⟩⟩⟩⟩⟩⟩⟩⟩
theorem k34_openF {W : World} {ok : Nat → Prop} {x : S34} {cs : List Value} (h : Kd.FK k34 W ok x cs) : ∃ A7 c7 A8 c8, cs = [.int .i64 x.f0, .int .i64 x.f1, .int .i64 x.f2, .int .i64 x.f3, .int .i64 x.f4, .int .i64 x.f5, .string x.f6, .slice A7 x.f7.length c7, .slice A8 x.f8.length c8] ∧ x.f7.length ≤ c7 ∧ Kd.F Kd.string W ok A7 x.f7.length x.f7 ∧ x.f8.length ≤ c8 ∧ Kd.F k70 W ok A8 x.f8.length x.f8 := by
 obtain ⟨A7, c7, A8, c8, rfl, l7, _, l8, _⟩ := k34_open (Kd.FK_now h)
 exact ⟨A7, c7, A8, c8, rfl, l7, (fun W' hW => by obtain ⟨A7_, c7_, A8_, c8_, he, l7_, g7_, l8_, g8_⟩ := k34_open (h W' hW); injection (Option.some.inj (show some (Value.slice A7 x.f7.length c7) = some (Value.slice A7_ x.f7.length c7_) from congrArg (fun l => l[7]?) he)) with ha_ _ _; rw [ha_]; exact g7_), l8, (fun W' hW => by obtain ⟨A7_, c7_, A8_, c8_, he, l7_, g7_, l8_, g8_⟩ := k34_open (h W' hW); injection (Option.some.inj (show some (Value.slice A8 x.f8.length c8) = some (Value.slice A8_ x.f8.length c8_) from congrArg (fun l => l[8]?) he)) with ha_ _ _; rw [ha_]; exact g8_)⟩
theorem k34_mkF (W : World) (ok : Nat → Prop) (x : S34) {A7 : Option Addr} {c7 : Nat} (l7 : x.f7.length ≤ c7) (g7 : Kd.F Kd.string W ok A7 x.f7.length x.f7) {A8 : Option Addr} {c8 : Nat} (l8 : x.f8.length ≤ c8) (g8 : Kd.F k70 W ok A8 x.f8.length x.f8) : Kd.FK k34 W ok x [.int .i64 x.f0, .int .i64 x.f1, .int .i64 x.f2, .int .i64 x.f3, .int .i64 x.f4, .int .i64 x.f5, .string x.f6, .slice A7 x.f7.length c7, .slice A8 x.f8.length c8] := fun W2 hW => k34_mk W2 x l7 (g7 W2 hW) l8 (g8 W2 hW)
def rd_T34 (xs : List S34) (i : Int) : S34 := xs.getD i.toNat z34
theorem at_T34 {w : World} {A : Option Addr} {n : Nat} {xs : List S34} (h : Kd.C k34 w A n xs) (i : Int) (h0 : 0 ≤ i) (h1 : i < n) : ∃ ad A7 c7 A8 c8, A = some ad ∧ w.cell? (ad.add (i.toNat * 9)) = some (.int .i64 (rd_T34 xs i).f0) ∧ w.cell? ⟨(ad.add (i.toNat * 9)).block, (ad.add (i.toNat * 9)).off + 1, none⟩ = some (.int .i64 (rd_T34 xs i).f1) ∧ w.cell? ⟨(ad.add (i.toNat * 9)).block, (ad.add (i.toNat * 9)).off + 2, none⟩ = some (.int .i64 (rd_T34 xs i).f2) ∧ w.cell? ⟨(ad.add (i.toNat * 9)).block, (ad.add (i.toNat * 9)).off + 3, none⟩ = some (.int .i64 (rd_T34 xs i).f3) ∧ w.cell? ⟨(ad.add (i.toNat * 9)).block, (ad.add (i.toNat * 9)).off + 4, none⟩ = some (.int .i64 (rd_T34 xs i).f4) ∧ w.cell? ⟨(ad.add (i.toNat * 9)).block, (ad.add (i.toNat * 9)).off + 5, none⟩ = some (.int .i64 (rd_T34 xs i).f5) ∧ w.cell? ⟨(ad.add (i.toNat * 9)).block, (ad.add (i.toNat * 9)).off + 6, none⟩ = some (.string (rd_T34 xs i).f6) ∧ w.cell? ⟨(ad.add (i.toNat * 9)).block, (ad.add (i.toNat * 9)).off + 7, none⟩ = some (.slice A7 (rd_T34 xs i).f7.length c7) ∧ w.cell? ⟨(ad.add (i.toNat * 9)).block, (ad.add (i.toNat * 9)).off + 8, none⟩ = some (.slice A8 (rd_T34 xs i).f8.length c8) ∧ (rd_T34 xs i).f7.length ≤ c7 ∧ Kd.string.C w A7 (rd_T34 xs i).f7.length (rd_T34 xs i).f7 ∧ (rd_T34 xs i).f8.length ≤ c8 ∧ k70.C w A8 (rd_T34 xs i).f8.length (rd_T34 xs i).f8 := by
 obtain ⟨ad, c, e, _, hK, hc0⟩ := Kd.C_get h z34 i h0 h1
 have hc : ∀ j u, c[j]? = some u → w.cell? (ad.add (i.toNat * 9 + j)) = some u := hc0
 obtain ⟨A7, c7, A8, c8, rfl, l7, g7, l8, g8⟩ := k34_open hK
 exact ⟨ad, A7, c7, A8, c8, e, hc 0 _ rfl, by rw [← add_field _ _ 1 (by omega)]; exact hc 1 _ rfl, by rw [← add_field _ _ 2 (by omega)]; exact hc 2 _ rfl, by rw [← add_field _ _ 3 (by omega)]; exact hc 3 _ rfl, by rw [← add_field _ _ 4 (by omega)]; exact hc 4 _ rfl, by rw [← add_field _ _ 5 (by omega)]; exact hc 5 _ rfl, by rw [← add_field _ _ 6 (by omega)]; exact hc 6 _ rfl, by rw [← add_field _ _ 7 (by omega)]; exact hc 7 _ rfl, by rw [← add_field _ _ 8 (by omega)]; exact hc 8 _ rfl, l7, g7, l8, g8⟩

theorem bne_nil_ (l : List UInt8) : (l != []) = !l.isEmpty := by cases l <;> rfl
end Go.Proofs.Ytdecpagcaondiaa.Al

/- One function of the program comes to what its plain twin says. This text began as the kit's own print (print.py, made by cprint.sh) and was turned by split.py: it is no printed file. -/
namespace Go.Proofs.Ytdecpagcaondiaa.Al
open Go.RowKit Go.Proofs.YtdecpagcaondiaaW.PrintWords Go.Proofs.YtdecpagcaondiaaW.PrintLast Go.Proofs.YtdecpagcaondiaaW.PrintMore
attribute [local go_sem] max2_int min2_int max_two min_two max_three min_three max_four min_four   -- for this text's walks alone
set_option linter.unusedVariables false
set_option linter.unusedSimpArgs false


theorem eqA70 (d : Nat) (w : World) (x0 y0 : ByteArray) (x1 y1 : ByteArray) (x2 y2 : Bool) :
  (Op.equalIn (d + 2) 70 (.agg #[.string x0, .string x1, .bool x2]) (.agg #[.string y0, .string y1, .bool y2])).run Try.prog w = .ok (x0.toList == y0.toList && (x1.toList == y1.toList && (x2 == y2))) w := by
 refine eqA_of Try.underlying70 (by kernel_rfl) ?_
 refine eqf_cons (by rfl) (by go_simp; rfl) (by go_simp; rfl) (by go_simp) ?_
 refine eqf_cons (by rfl) (by go_simp; rfl) (by go_simp; rfl) (by go_simp) ?_
 exact eqf_last (by rfl) (by go_simp; rfl) (by go_simp; rfl) (by go_simp)

end Go.Proofs.Ytdecpagcaondiaa.Al

/- Texts by their order: '<=' is 'not greater'. -/
namespace Go.Proofs.Ytdecpagcaondiaa.Al
open Go.RowKit
theorem less_total : ∀ a b : List UInt8, (Op.bytesLess a b || a == b) = !Op.bytesLess b a
 | [], [] => rfl
 | [], _ :: _ => rfl
 | _ :: _, [] => rfl
 | a :: x, b :: y => by
  have ih := less_total x y
  show ((decide (a < b) || (a == b && Op.bytesLess x y)) || (a :: x == b :: y)) = !(decide (b < a) || (b == a && Op.bytesLess y x))
  by_cases hab : a = b
  ·subst hab
   have h1 : decide (a < a) = false := decide_eq_false (UInt8.lt_irrefl a)
   simp only [h1, Bool.false_or, beq_self_eq_true, Bool.true_and, List.cons_beq_cons]
   exact ih
  ·have h2 : (a == b) = false := by simpa using hab
   have h3 : (b == a) = false := by simpa using fun h => hab h.symm
   simp only [h2, h3, Bool.false_and, Bool.or_false, List.cons_beq_cons]
   by_cases hlt : a < b
   ·have : ¬ b < a := fun h => by have h1 := UInt8.lt_iff_toNat_lt.1 hlt; have h2 := UInt8.lt_iff_toNat_lt.1 h; omega
    simp [hlt, this]
   ·have : b < a := by
     apply UInt8.lt_iff_toNat_lt.2
     have h1 : ¬ a.toNat < b.toNat := fun h => hlt (UInt8.lt_iff_toNat_lt.2 h)
     have h2 : a.toNat ≠ b.toNat := fun h => hab (UInt8.toNat_inj.1 h)
     omega
    simp [hlt, this]
theorem leq_not (t : TypeId) (a b : ByteArray) : binOp .leq t (.string a) (.string b) = pure (.bool (!Op.bytesLess b.toList a.toList)) := by
 have e : binOp .leq t (.string a) (.string b) = pure (.bool (Op.bytesLess a.toList b.toList || a.toList == b.toList)) := by simp [binOp, Op.stringOp]
 rw [e, less_total]
end Go.Proofs.Ytdecpagcaondiaa.Al

/- One function of the program comes to what its plain twin says. This text began as the kit's own print (print.py, made by cprint.sh) and was turned by split.py: it is no printed file. -/
namespace Go.Proofs.Ytdecpagcaondiaa.Al
open Go.RowKit Go.Proofs.YtdecpagcaondiaaW.PrintWords Go.Proofs.YtdecpagcaondiaaW.PrintLast Go.Proofs.YtdecpagcaondiaaW.PrintMore
attribute [local go_sem] max2_int min2_int max_two min_two max_three min_three max_four min_four   -- for this text's walks alone
set_option linter.unusedVariables false
set_option linter.unusedSimpArgs false

/-! ### letter_Key: function 32 -/
def letter_Key.f (a0 : ByteArray) : Option (Bool) := if a0.toList = ([] : List UInt8) then (some false) else (some (decide ((a0.size : Int) ≤ 32)))
set_option maxHeartbeats 8000000 in
set_option maxRecDepth 100000 in
theorem letter_Key.calls (a0 : ByteArray) (r : Bool) (w : World) (h : letter_Key.f a0 = some r) :
  Calls Try.prog 32 #[.string a0] w fun e w' => e = .returned (.bool r) ∧ Drawn0 w w' := by
 have H : (if a0.toList = ([] : List UInt8) then (some false) else (some (decide ((a0.size : Int) ≤ 32)))) = some r := h
 clear h
 by_cases c2 : a0.toList = ([] : List UInt8)
 ·rw [if_pos c2] at H
  have c2b0 : (a0.toList == ([] : List UInt8)) = true := beq_iff_eq.mpr c2
  have c2b1 : (a0.toList != ([] : List UInt8)) = false := bne_eq_false_iff_eq.mpr c2
  clear c2
  obtain rfl := Option.some.inj H
  go_enter Try.func32, Try.ntmps32
  go_wp2
  go_ret
  exact ⟨by first | rfl | (simp; done) | (simp [*]; done) | (simp [bne_nil_]; done), by repeat (first | exact Drawn0.refl _ | apply Drawn0.step)⟩
 ·rw [if_neg c2] at H
  have c2b0 : (a0.toList == ([] : List UInt8)) = false := beq_eq_false_iff_ne.mpr c2
  have c2b1 : (a0.toList != ([] : List UInt8)) = true := bne_iff_ne.mpr c2
  obtain rfl := Option.some.inj H
  go_enter Try.func32, Try.ntmps32
  go_wp2
  go_ret
  exact ⟨by first | rfl | (simp; done) | (simp [*]; done) | (simp [bne_nil_]; done), by repeat (first | exact Drawn0.refl _ | apply Drawn0.step)⟩

end Go.Proofs.Ytdecpagcaondiaa.Al

/- One function of the program comes to what its plain twin says. This text began as the kit's own print (print.py, made by cprint.sh) and was turned by split.py: it is no printed file. -/
namespace Go.Proofs.Ytdecpagcaondiaa.Al
open Go.RowKit Go.Proofs.YtdecpagcaondiaaW.PrintWords Go.Proofs.YtdecpagcaondiaaW.PrintLast Go.Proofs.YtdecpagcaondiaaW.PrintMore
attribute [local go_sem] max2_int min2_int max_two min_two max_three min_three max_four min_four   -- for this text's walks alone
set_option linter.unusedVariables false
set_option linter.unusedSimpArgs false

attribute [local go_sem] leq_not
/-! ### letter_Rising: function 33 -/
def letter_Rising.l0 : Nat → List ByteArray → List ByteArray → Int → Int → Option (Bool)
 | 0, _, _, _, _ => none
 | k + 1, x0, x5, x6, x7 => if x7 < x6 then (if 0 ≤ x7 then (if x7 < (x5.length : Int) then ((letter_Key.f (rdOf ByteArray.empty x5 x7)).bind fun t102 => (if t102 = true then (if x7 > 0 then (if 0 ≤ (wrap64 (x7 - 1)) then (if (wrap64 (x7 - 1)) < (x0.length : Int) then (if ((Op.bytesLess ((rdOf ByteArray.empty x0 (wrap64 (x7 - 1))).toList) ((rdOf ByteArray.empty x5 x7).toList)) = true) then (letter_Rising.l0 k x0 x5 x6 (wrap64 (x7 + 1))) else (some false)) else (none)) else (none)) else (letter_Rising.l0 k x0 x5 x6 (wrap64 (x7 + 1)))) else (some false))) else (none)) else (none)) else (some true)
def letter_Rising.f (k : Nat) (l0 : List ByteArray) : Option (Bool) := letter_Rising.l0 k l0 l0 (l0.length : Int) 0
theorem letter_Rising.mono_l : ∀ k, (∀ y0 y1 y2 y3, LeO (letter_Rising.l0 k y0 y1 y2 y3) (letter_Rising.l0 (k + 1) y0 y1 y2 y3))
 | 0 => fun _ _ _ _ r h => by simp [letter_Rising.l0] at h
 | k + 1 => by
  have ih0 := letter_Rising.mono_l k
  ·intro y0 y1 y2 y3
   unfold letter_Rising.l0
   repeat' first
   | (with_reducible exact ih0 _ _ _ _)
   | (with_reducible exact LeO.refl _)
   | (with_reducible exact LeO.none _)
   | (with_reducible refine LeO.ite ?_ ?_)
   | (with_reducible refine LeO.bind ?_ (fun _ => ?_))
   | exact ih0 _ _ _ _
   | exact LeO.none _
   | refine LeO.ite ?_ ?_
   | refine LeO.bind ?_ (fun _ => ?_)
theorem letter_Rising.mono : ∀ a0 k, LeO (letter_Rising.f k a0) (letter_Rising.f (k + 1) a0) := by
 intro a0 k
 have ih0 := letter_Rising.mono_l k
 unfold letter_Rising.f
 repeat' first
   | (with_reducible exact ih0 _ _ _ _)
   | (with_reducible exact LeO.refl _)
   | (with_reducible exact LeO.none _)
   | (with_reducible refine LeO.ite ?_ ?_)
   | (with_reducible refine LeO.bind ?_ (fun _ => ?_))
   | exact ih0 _ _ _ _
   | exact LeO.none _
   | refine LeO.ite ?_ ?_
   | refine LeO.bind ?_ (fun _ => ?_)
set_option maxHeartbeats 8000000 in
set_option maxRecDepth 100000 in
theorem letter_Rising.calls (k : Nat) (A0 : Option Addr) (c0 : Nat) (l0 : List ByteArray) (r : Bool) (w : World) (hr0 : Kd.C Kd.string w A0 l0.length l0) (hc0 : l0.length ≤ c0) (h : letter_Rising.f k l0 = some r) :
  Calls Try.prog 33 #[.slice A0 l0.length c0] w fun e w' => e = .returned (.bool r) ∧ Drawn0 w w' := by
 have HR0 := Aside0.mk hr0
 have HC0 := Aside0.mk hc0
 clear hr0 hc0
 have H : (letter_Rising.l0 k l0 l0 (l0.length : Int) 0) = some r := h
 clear h
 have H' := Aside0.mk H
 clear H
 go_enter Try.func33, Try.ntmps33
 go_wp2
 go_loopg [7] k (fun kq v7 w' => ∃ (x7_1 : Int), v7 = .int .i64 x7_1 ∧ Aside0 (letter_Rising.l0 kq l0 l0 (l0.length : Int) x7_1 = some r) ∧ Aside0 (kq ≤ k) ∧ Drawn0 w w')
 case atStart => exact ⟨(0), (by first | rfl | (simp; done) | (simp [*]; done) | (simp [bne_nil_]; done)), H', ⟨Nat.le_refl _⟩, by repeat (first | exact Drawn0.refl _ | apply Drawn0.step)⟩
 case round =>
  clear H'
  obtain ⟨x7_1, rfl, HA, HK1, ⟨m1, rfl⟩⟩ := hrel
  cases gk with
  | zero => exact absurd HA.out (by simp [letter_Rising.l0])
  | succ k1 =>
   have H := HA.out
   clear HA
   simp only [letter_Rising.l0] at H
   by_cases c2 : x7_1 < (l0.length : Int)
   ·rw [if_pos c2] at H
    have c2b0 : decide (x7_1 < (l0.length : Int)) = true := decide_eq_true c2
    clear c2
    by_cases c3 : 0 ≤ x7_1
    ·rw [if_pos c3] at H
     have c3b0 : decide (0 ≤ x7_1) = true := decide_eq_true c3
     clear c3
     by_cases c4 : x7_1 < (l0.length : Int)
     ·rw [if_pos c4] at H
      have c4b0 : decide (x7_1 < (l0.length : Int)) = true := decide_eq_true c4
      clear c4
      replace H := Option.bind_eq_some_iff.mp H
      obtain ⟨t102, A50, H⟩ := H
      replace H : (if t102 = true then (if x7_1 > 0 then (if 0 ≤ (wrap64 (x7_1 - 1)) then (if (wrap64 (x7_1 - 1)) < (l0.length : Int) then (if ((Op.bytesLess ((rdOf ByteArray.empty l0 (wrap64 (x7_1 - 1))).toList) ((rdOf ByteArray.empty l0 x7_1).toList)) = true) then (letter_Rising.l0 k1 l0 l0 (l0.length : Int) (wrap64 (x7_1 + 1))) else (some false)) else (none)) else (none)) else (letter_Rising.l0 k1 l0 l0 (l0.length : Int) (wrap64 (x7_1 + 1)))) else (some false)) = some r := H
      have A5 := Aside0.mk A50
      clear A50
      by_cases c6 : t102 = true
      ·subst c6
       have H1 : (if x7_1 > 0 then (if 0 ≤ (wrap64 (x7_1 - 1)) then (if (wrap64 (x7_1 - 1)) < (l0.length : Int) then (if ((Op.bytesLess ((rdOf ByteArray.empty l0 (wrap64 (x7_1 - 1))).toList) ((rdOf ByteArray.empty l0 x7_1).toList)) = true) then (letter_Rising.l0 k1 l0 l0 (l0.length : Int) (wrap64 (x7_1 + 1))) else (some false)) else (none)) else (none)) else (letter_Rising.l0 k1 l0 l0 (l0.length : Int) (wrap64 (x7_1 + 1)))) = some r := by rw [if_pos rfl] at H; exact H
       clear H
       have H := H1
       clear H1
       by_cases c7 : x7_1 > 0
       ·rw [if_pos c7] at H
        have c7b0 : decide (0 < x7_1) = true := decide_eq_true c7
        clear c7
        obtain ⟨ji8, hji8⟩ : ∃ j_ : Int, (wrap64 (x7_1 - 1)) = j_ := ⟨_, rfl⟩
        replace H : (if 0 ≤ (ji8) then (if (ji8) < (l0.length : Int) then (if ((Op.bytesLess ((rdOf ByteArray.empty l0 (ji8)).toList) ((rdOf ByteArray.empty l0 x7_1).toList)) = true) then (letter_Rising.l0 k1 l0 l0 (l0.length : Int) (wrap64 (x7_1 + 1))) else (some false)) else (none)) else (none)) = some r := by first | (rw [hji8] at H; exact H) | (simp only [hji8] at H ⊢; exact H)
        (try rw [hji8] at A5)
        have hji8w : (IntKind.i64.wrap (x7_1 - 1)) = ji8 := (i64_w _).trans hji8
        by_cases c9 : 0 ≤ (ji8)
        ·rw [if_pos c9] at H
         have c9b0 : decide (0 ≤ (ji8)) = true := decide_eq_true c9
         clear c9
         by_cases c10 : (ji8) < (l0.length : Int)
         ·rw [if_pos c10] at H
          have c10b0 : decide ((ji8) < (l0.length : Int)) = true := decide_eq_true c10
          clear c10
          by_cases c11 : ((Op.bytesLess ((rdOf ByteArray.empty l0 (ji8)).toList) ((rdOf ByteArray.empty l0 x7_1).toList)) = true)
          ·rw [if_pos c11] at H
           have c11b0 : (Op.bytesLess ((rdOf ByteArray.empty l0 (ji8)).toList) ((rdOf ByteArray.empty l0 x7_1).toList)) = true := c11
           clear c11
           have H' := Aside0.mk H
           clear H
           have p101 : 0 ≤ (x7_1 : Int) := of_decide_eq_true (by first | (with_reducible assumption) | assumption)
           have q101 : x7_1 < (l0.length : Int) := of_decide_eq_true (by first | (with_reducible assumption) | assumption)
           obtain ⟨ad101, e101, hx101_0⟩ := Kd.at_string HR0.out x7_1 p101 q101
           cases e101
           replace p101 := eq_true p101
           replace q101 := eq_true q101
           go_wp2_with (first | ((with_reducible refine gate_callee (f := 32) rfl ?_); refine goesL_ (some 13) rfl rfl Try.func32 (by kernel_rfl) rfl #[.string (rdOf ByteArray.empty l0 x7_1)] rfl (by (try simp only [List.map_toArray, List.map_cons, List.map_nil]); first | done | rfl | (simp only [List.length_drop, List.length_take]; rfl)) ?_; (with_reducible refine (letter_Key.calls (rdOf ByteArray.empty l0 x7_1) true _ A5.out).mono ?_); rintro e w' ⟨rfl, ⟨nd, rfl⟩⟩; refine ⟨_, rfl, ?_⟩; have p103 : 0 ≤ ((ji8) : Int) := of_decide_eq_true (by first | (with_reducible assumption) | assumption); have q103 : (ji8) < (l0.length : Int) := of_decide_eq_true (by first | (with_reducible assumption) | assumption); obtain ⟨ad103, e103, hx103_0⟩ := Kd.at_string HR0.out (ji8) p103 q103; obtain rfl : ad101 = ad103 := (by injection e103); replace p103 := eq_true p103; replace q103 := eq_true q103))
           go_roundg k1
           case measure => have := HK1.out; omega
           case rel => exact ⟨(wrap64 (x7_1 + 1)), (by first | rfl | (simp; done) | (simp [*]; done) | (simp [bne_nil_]; done)), H', ⟨by have := HK1.out; omega⟩, by repeat (first | exact Drawn0.refl _ | apply Drawn0.step)⟩
          ·rw [if_neg c11] at H
           have c11b0 : (Op.bytesLess ((rdOf ByteArray.empty l0 (ji8)).toList) ((rdOf ByteArray.empty l0 x7_1).toList)) = false := by simpa using c11
           clear c11
           obtain rfl := Option.some.inj H
           have p101 : 0 ≤ (x7_1 : Int) := of_decide_eq_true (by first | (with_reducible assumption) | assumption)
           have q101 : x7_1 < (l0.length : Int) := of_decide_eq_true (by first | (with_reducible assumption) | assumption)
           obtain ⟨ad101, e101, hx101_0⟩ := Kd.at_string HR0.out x7_1 p101 q101
           cases e101
           replace p101 := eq_true p101
           replace q101 := eq_true q101
           go_wp2_with (first | ((with_reducible refine gate_callee (f := 32) rfl ?_); refine goesL_ (some 13) rfl rfl Try.func32 (by kernel_rfl) rfl #[.string (rdOf ByteArray.empty l0 x7_1)] rfl (by (try simp only [List.map_toArray, List.map_cons, List.map_nil]); first | done | rfl | (simp only [List.length_drop, List.length_take]; rfl)) ?_; (with_reducible refine (letter_Key.calls (rdOf ByteArray.empty l0 x7_1) true _ A5.out).mono ?_); rintro e w' ⟨rfl, ⟨nd, rfl⟩⟩; refine ⟨_, rfl, ?_⟩; have p103 : 0 ≤ ((ji8) : Int) := of_decide_eq_true (by first | (with_reducible assumption) | assumption); have q103 : (ji8) < (l0.length : Int) := of_decide_eq_true (by first | (with_reducible assumption) | assumption); obtain ⟨ad103, e103, hx103_0⟩ := Kd.at_string HR0.out (ji8) p103 q103; obtain rfl : ad101 = ad103 := (by injection e103); replace p103 := eq_true p103; replace q103 := eq_true q103))
           go_ret
           exact ⟨by first | rfl | (simp; done) | (simp only [← hji8] <;> (first | rfl | simp)) | (simp [*]; done), by repeat (first | exact Drawn0.refl _ | apply Drawn0.step)⟩
         ·rw [if_neg c10] at H
          exact absurd H (by simp)
        ·rw [if_neg c9] at H
         exact absurd H (by simp)
       ·rw [if_neg c7] at H
        have c7b0 : decide (0 < x7_1) = false := decide_eq_false c7
        clear c7
        have H' := Aside0.mk H
        clear H
        have p101 : 0 ≤ (x7_1 : Int) := of_decide_eq_true (by first | (with_reducible assumption) | assumption)
        have q101 : x7_1 < (l0.length : Int) := of_decide_eq_true (by first | (with_reducible assumption) | assumption)
        obtain ⟨ad101, e101, hx101_0⟩ := Kd.at_string HR0.out x7_1 p101 q101
        cases e101
        replace p101 := eq_true p101
        replace q101 := eq_true q101
        go_wp2_with (first | ((with_reducible refine gate_callee (f := 32) rfl ?_); refine goesL_ (some 13) rfl rfl Try.func32 (by kernel_rfl) rfl #[.string (rdOf ByteArray.empty l0 x7_1)] rfl (by (try simp only [List.map_toArray, List.map_cons, List.map_nil]); first | done | rfl | (simp only [List.length_drop, List.length_take]; rfl)) ?_; (with_reducible refine (letter_Key.calls (rdOf ByteArray.empty l0 x7_1) true _ A5.out).mono ?_); rintro e w' ⟨rfl, ⟨nd, rfl⟩⟩; refine ⟨_, rfl, ?_⟩))
        go_roundg k1
        case measure => have := HK1.out; omega
        case rel => exact ⟨(wrap64 (x7_1 + 1)), (by first | rfl | (simp; done) | (simp [*]; done) | (simp [bne_nil_]; done)), H', ⟨by have := HK1.out; omega⟩, by repeat (first | exact Drawn0.refl _ | apply Drawn0.step)⟩
      ·replace c6 := Bool.eq_false_iff.mpr c6
       subst c6
       have H1 : (some false) = some r := by rw [if_neg (show ¬ (false = true) by decide)] at H; exact H
       clear H
       have H := H1
       clear H1
       obtain rfl := Option.some.inj H
       have p101 : 0 ≤ (x7_1 : Int) := of_decide_eq_true (by first | (with_reducible assumption) | assumption)
       have q101 : x7_1 < (l0.length : Int) := of_decide_eq_true (by first | (with_reducible assumption) | assumption)
       obtain ⟨ad101, e101, hx101_0⟩ := Kd.at_string HR0.out x7_1 p101 q101
       cases e101
       replace p101 := eq_true p101
       replace q101 := eq_true q101
       go_wp2_with (first | ((with_reducible refine gate_callee (f := 32) rfl ?_); refine goesL_ (some 13) rfl rfl Try.func32 (by kernel_rfl) rfl #[.string (rdOf ByteArray.empty l0 x7_1)] rfl (by (try simp only [List.map_toArray, List.map_cons, List.map_nil]); first | done | rfl | (simp only [List.length_drop, List.length_take]; rfl)) ?_; (with_reducible refine (letter_Key.calls (rdOf ByteArray.empty l0 x7_1) false _ A5.out).mono ?_); rintro e w' ⟨rfl, ⟨nd, rfl⟩⟩; refine ⟨_, rfl, ?_⟩))
       go_ret
       exact ⟨by first | rfl | (simp; done) | (simp [*]; done) | (simp [bne_nil_]; done), by repeat (first | exact Drawn0.refl _ | apply Drawn0.step)⟩
     ·rw [if_neg c4] at H
      exact absurd H (by simp)
    ·rw [if_neg c3] at H
     exact absurd H (by simp)
   ·rw [if_neg c2] at H
    have c2b0 : decide (x7_1 < (l0.length : Int)) = false := decide_eq_false c2
    clear c2
    obtain rfl := Option.some.inj H
    go_wp2
    go_ret
    exact ⟨by first | rfl | (simp; done) | (simp [*]; done) | (simp [bne_nil_]; done), by repeat (first | exact Drawn0.refl _ | apply Drawn0.step)⟩

end Go.Proofs.Ytdecpagcaondiaa.Al

/- One function of the program comes to what its plain twin says. This text began as the kit's own print (print.py, made by cprint.sh) and was turned by split.py: it is no printed file. -/
namespace Go.Proofs.Ytdecpagcaondiaa.Al
open Go.RowKit Go.Proofs.YtdecpagcaondiaaW.PrintWords Go.Proofs.YtdecpagcaondiaaW.PrintLast Go.Proofs.YtdecpagcaondiaaW.PrintMore
attribute [local go_sem] max2_int min2_int max_two min_two max_three min_three max_four min_four   -- for this text's walks alone
set_option linter.unusedVariables false
set_option linter.unusedSimpArgs false

/-! ### letter_writes: function 34 -/
def letter_writes.l0 : Nat → List (S70) → List ByteArray → List (S70) → Int → Int → Option (Bool)
 | 0, _, _, _, _, _ => none
 | k + 1, x0, x3, x6, x7, x8 => if x8 < x7 then (if 0 ≤ x8 then (if x8 < (x6.length : Int) then (if (((rd_T70 x6 x8).f1).size : Int) > 2052 then (some false) else (if (rd_T70 x6 x8).f2 = true then (if ((rd_T70 x6 x8).f1).toList = ([] : List UInt8) then (if x3.length < 8796093022208 then (letter_writes.l0 k x0 (x3 ++ [(rd_T70 x6 x8).f0]) x6 x7 (wrap64 (x8 + 1))) else (none)) else (some false)) else (if x3.length < 8796093022208 then (letter_writes.l0 k x0 (x3 ++ [(rd_T70 x6 x8).f0]) x6 x7 (wrap64 (x8 + 1))) else (none)))) else (none)) else (none)) else (if (x0.length : Int) ≤ 16 then ((letter_Rising.f k x3).bind fun t112 => (some t112)) else (some false))
def letter_writes.f (k : Nat) (l0 : List (S70)) : Option (Bool) := letter_writes.l0 k l0 ([] : List ByteArray) l0 (l0.length : Int) 0
theorem letter_writes.mono_l : ∀ k, (∀ y0 y1 y2 y3 y4, LeO (letter_writes.l0 k y0 y1 y2 y3 y4) (letter_writes.l0 (k + 1) y0 y1 y2 y3 y4))
 | 0 => fun _ _ _ _ _ r h => by simp [letter_writes.l0] at h
 | k + 1 => by
  have ih0 := letter_writes.mono_l k
  ·intro y0 y1 y2 y3 y4
   unfold letter_writes.l0
   repeat' first
   | (with_reducible exact ih0 _ _ _ _ _)
   | (with_reducible exact letter_Rising.mono _ _)
   | (with_reducible exact LeO.refl _)
   | (with_reducible exact LeO.none _)
   | (with_reducible refine LeO.ite ?_ ?_)
   | (with_reducible refine LeO.bind ?_ (fun _ => ?_))
   | exact ih0 _ _ _ _ _
   | exact letter_Rising.mono _ _
   | exact LeO.none _
   | refine LeO.ite ?_ ?_
   | refine LeO.bind ?_ (fun _ => ?_)
theorem letter_writes.mono : ∀ a0 k, LeO (letter_writes.f k a0) (letter_writes.f (k + 1) a0) := by
 intro a0 k
 have ih0 := letter_writes.mono_l k
 unfold letter_writes.f
 repeat' first
   | (with_reducible exact ih0 _ _ _ _ _)
   | (with_reducible exact letter_Rising.mono _ _)
   | (with_reducible exact LeO.refl _)
   | (with_reducible exact LeO.none _)
   | (with_reducible refine LeO.ite ?_ ?_)
   | (with_reducible refine LeO.bind ?_ (fun _ => ?_))
   | exact ih0 _ _ _ _ _
   | exact letter_Rising.mono _ _
   | exact LeO.none _
   | refine LeO.ite ?_ ?_
   | refine LeO.bind ?_ (fun _ => ?_)
set_option maxHeartbeats 8000000 in
set_option maxRecDepth 100000 in
theorem letter_writes.calls (k : Nat) (A0 : Option Addr) (c0 : Nat) (l0 : List (S70)) (r : Bool) (w : World) (hr0 : Kd.C k70 w A0 l0.length l0) (hc0 : l0.length ≤ c0) (h : letter_writes.f k l0 = some r) :
  Calls Try.prog 34 #[.slice A0 l0.length c0] w fun e w' => e = .returned (.bool r) ∧ Below w.heap.size w w' := by
 have hu70 := Try.underlying70
 have HR0 := Aside0.mk hr0
 have HC0 := Aside0.mk hc0
 clear hr0 hc0
 have HB := Aside0.mk (Below.refl w.heap.size w)
 have H : (letter_writes.l0 k l0 ([] : List ByteArray) l0 (l0.length : Int) 0) = some r := h
 clear h
 have H' := Aside0.mk H
 clear H
 go_enter Try.func34, Try.ntmps34
 go_wp2
 go_loopg [3, 8] k (fun kq v3 v8 w' => ∃ (x3_1 : List ByteArray) (x8_1 : Int), v8 = .int .i64 x8_1 ∧ Aside0 (letter_writes.l0 kq l0 x3_1 l0 (l0.length : Int) x8_1 = some r) ∧ Aside0 (kq ≤ k) ∧ Aside0 (Kd.R Kd.string 9 w' w.heap.size (fun _ => True) v3 x3_1) ∧ Aside0 (Below w.heap.size w w'))
 case atStart => exact ⟨(([] : List ByteArray)), (0), (by first | rfl | (simp; done) | (simp [*]; done) | (simp [bne_nil_]; done)), H', ⟨Nat.le_refl _⟩, ⟨by first | exact Kd.R_nil _ _ _ _ _ | exact Kd.N_nil _ _ _ _ _ | exact Kd.V_nil _ _ _ _ _ | exact Kd.Q_nil _ _ _ _ _ | exact Kd.S_nil _ _ _ _ _⟩, ⟨by repeat (first | (with_reducible first | exact HB.out | apply below_alloc | apply pw_below_drewN | apply below_drew1) | exact HB.out)⟩⟩
 case round =>
  clear H'
  obtain ⟨x3_1, x8_1, rfl, HA, HK1, HO_3, HB⟩ := hrel
  cases gk with
  | zero => exact absurd HA.out (by simp [letter_writes.l0])
  | succ k1 =>
   have H := HA.out
   clear HA
   simp only [letter_writes.l0] at H
   by_cases c2 : x8_1 < (l0.length : Int)
   ·rw [if_pos c2] at H
    have c2b0 : decide (x8_1 < (l0.length : Int)) = true := decide_eq_true c2
    clear c2
    by_cases c3 : 0 ≤ x8_1
    ·rw [if_pos c3] at H
     have c3b0 : decide (0 ≤ x8_1) = true := decide_eq_true c3
     clear c3
     by_cases c4 : x8_1 < (l0.length : Int)
     ·rw [if_pos c4] at H
      have c4b0 : decide (x8_1 < (l0.length : Int)) = true := decide_eq_true c4
      clear c4
      by_cases c5 : (((rd_T70 l0 x8_1).f1).size : Int) > 2052
      ·rw [if_pos c5] at H
       have c5b0 : decide (2052 < (((rd_T70 l0 x8_1).f1).size : Int)) = true := decide_eq_true c5
       have c5b1 : decide (2052 < ((rd_T70 l0 x8_1).f1).size) = true := decide_eq_true (by omega)
       clear c5
       obtain rfl := Option.some.inj H
       have p104 : 0 ≤ (x8_1 : Int) := of_decide_eq_true (by first | (with_reducible assumption) | assumption)
       have q104 : x8_1 < (l0.length : Int) := of_decide_eq_true (by first | (with_reducible assumption) | assumption)
       obtain ⟨ad104, e104, hx104_0, hx104_1, hx104_2⟩ := at_T70 HR0.out x8_1 p104 q104
       cases e104
       replace hx104_0 := (HB.out.cell (World.block_lt_of_cell? w _ hx104_0)).trans hx104_0
       replace hx104_1 := (HB.out.cell (World.block_lt_of_cell? w _ hx104_1)).trans hx104_1
       replace hx104_2 := (HB.out.cell (World.block_lt_of_cell? w _ hx104_2)).trans hx104_2
       replace p104 := eq_true p104
       replace q104 := eq_true q104
       go_wp2_with (first | ((with_reducible refine gate_dst (N := 5) rfl ?_); refine box_event ?hg (N := 5) ?hd (cs := #[.string (⟨#[]⟩ : ByteArray), .string (⟨#[]⟩ : ByteArray), .bool false]) (t := 70) ?hr ?_; (case hd => rfl); (case hg => rfl); (case hr => first | (go_simp; done) | (go_simp; rfl)); intro gb105 hg w6 hbox hb; have n0_ := Aside0.mk (Kd.R_below (by (with_reducible repeat (first | apply Kd.R_alloc | apply Kd.R_drewN | apply Kd.R_drew)); exact HO_3.out) hb); have n1_ := Aside0.mk (below_step (by repeat (first | (with_reducible first | exact HB.out | apply below_alloc | apply pw_below_drewN | apply below_drew1) | exact HB.out)) hb); have n2_ := Aside0.mk (hbox); have n3_ := Aside0.mk ((by rw [hg]; exact (below_size (by repeat (first | (with_reducible first | exact HB.out | apply below_alloc | apply pw_below_drewN | apply below_drew1) | exact HB.out))) : w.heap.size ≤ gb105)); have n4_ := Aside0.mk ((by rw [hg]; exact (below_size (by repeat (first | (with_reducible first | exact HB.out | apply below_alloc | apply pw_below_drewN | apply below_drew1) | exact HB.out))) : w.heap.size ≤ gb105)); clear HO_3; clear HB; have HO_3 := n0_; have HB := n1_; have BK105 := n2_; have GW105 := n3_; have GE105 := n4_; clear n0_ n1_ n2_ n3_ n4_; clear hb hbox hg; have hcz7_0 : w6.cell? ⟨gb105, 0, none⟩ = some (.string (⟨#[]⟩ : ByteArray)) := (blk_cell BK105.out 0).trans rfl; have hcz7_1 : w6.cell? ⟨gb105, 1, none⟩ = some (.string (⟨#[]⟩ : ByteArray)) := (blk_cell BK105.out 1).trans rfl; have hcz7_2 : w6.cell? ⟨gb105, 2, none⟩ = some (.bool false) := (blk_cell BK105.out 2).trans rfl; have hfz7_0 := blk_frozen BK105.out 0; have hfz7_1 := blk_frozen BK105.out 1; have hfz7_2 := blk_frozen BK105.out 2))
       go_ret
       exact ⟨by first | rfl | (simp [errW_none, errW_some] <;> rfl) | (simp [*, errW_none, errW_some] <;> rfl), by repeat (first | (with_reducible first | exact HB.out | apply below_alloc | apply pw_below_drewN | apply below_drew1 | refine below_set ?_ GE105.out) | exact HB.out)⟩
      ·rw [if_neg c5] at H
       have c5b0 : decide (2052 < (((rd_T70 l0 x8_1).f1).size : Int)) = false := decide_eq_false c5
       have c5b1 : decide (2052 < ((rd_T70 l0 x8_1).f1).size) = false := decide_eq_false (by omega)
       clear c5
       obtain ⟨bq8, hbq8⟩ : ∃ b_ : Bool, b_ = ((rd_T70 l0 x8_1).f2) := ⟨_, rfl⟩
       replace H : (if bq8 = true then (if ((rd_T70 l0 x8_1).f1).toList = ([] : List UInt8) then (if x3_1.length < 8796093022208 then (letter_writes.l0 k1 l0 (x3_1 ++ [(rd_T70 l0 x8_1).f0]) l0 (l0.length : Int) (wrap64 (x8_1 + 1))) else (none)) else (some false)) else (if x3_1.length < 8796093022208 then (letter_writes.l0 k1 l0 (x3_1 ++ [(rd_T70 l0 x8_1).f0]) l0 (l0.length : Int) (wrap64 (x8_1 + 1))) else (none))) = some r := by rw [← hbq8] at H; exact H
       have Nbq8 := Aside0.mk hbq8
       clear hbq8
       by_cases c9 : bq8 = true
       ·subst c9
        have H1 : (if ((rd_T70 l0 x8_1).f1).toList = ([] : List UInt8) then (if x3_1.length < 8796093022208 then (letter_writes.l0 k1 l0 (x3_1 ++ [(rd_T70 l0 x8_1).f0]) l0 (l0.length : Int) (wrap64 (x8_1 + 1))) else (none)) else (some false)) = some r := by rw [if_pos rfl] at H; exact H
        clear H
        have H := H1
        clear H1
        by_cases c10 : ((rd_T70 l0 x8_1).f1).toList = ([] : List UInt8)
        ·rw [if_pos c10] at H
         have c10b0 : (((rd_T70 l0 x8_1).f1).toList == ([] : List UInt8)) = true := beq_iff_eq.mpr c10
         have c10b1 : (((rd_T70 l0 x8_1).f1).toList != ([] : List UInt8)) = false := bne_eq_false_iff_eq.mpr c10
         clear c10
         by_cases c11 : x3_1.length < 8796093022208
         ·rw [if_pos c11] at H
          have LMc11 := Aside0.mk c11
          clear c11
          obtain ⟨y106, hy106⟩ : ∃ y_ : List ByteArray, y_ = (x3_1 ++ [(rd_T70 l0 x8_1).f0]) := ⟨_, rfl⟩
          replace H : (letter_writes.l0 k1 l0 y106 l0 (l0.length : Int) (wrap64 (x8_1 + 1))) = some r := by first | (rw [hy106]; with_reducible exact H) | (have H2_ := (Option.bind_some _ _).symm.trans H; rw [hy106]; with_reducible exact H2_) | (have H2_ := (Option.bind_some _ _).symm.trans H; with_reducible exact H2_) | with_reducible exact H | (rw [hy106]; exact H) | exact H
          have Ny106 := Aside0.mk hy106
          clear hy106
          have H' := Aside0.mk H
          clear H
          have p104 : 0 ≤ (x8_1 : Int) := of_decide_eq_true (by first | (with_reducible assumption) | assumption)
          have q104 : x8_1 < (l0.length : Int) := of_decide_eq_true (by first | (with_reducible assumption) | assumption)
          obtain ⟨ad104, e104, hx104_0, hx104_1, hx104_2⟩ := at_T70 HR0.out x8_1 p104 q104
          (try rw [← Nbq8.out] at hx104_2)
          cases e104
          replace hx104_0 := (HB.out.cell (World.block_lt_of_cell? w _ hx104_0)).trans hx104_0
          replace hx104_1 := (HB.out.cell (World.block_lt_of_cell? w _ hx104_1)).trans hx104_1
          replace hx104_2 := (HB.out.cell (World.block_lt_of_cell? w _ hx104_2)).trans hx104_2
          replace p104 := eq_true p104
          replace q104 := eq_true q104
          go_wp2_with (first | ((with_reducible refine gate_dst (N := 5) rfl ?_); refine box_event ?hg (N := 5) ?hd (cs := #[.string (⟨#[]⟩ : ByteArray), .string (⟨#[]⟩ : ByteArray), .bool false]) (t := 70) ?hr ?_; (case hd => rfl); (case hg => rfl); (case hr => first | (go_simp; done) | (go_simp; rfl)); intro gb105 hg w12 hbox hb; have n0_ := Aside0.mk (Kd.R_below (by (with_reducible repeat (first | apply Kd.R_alloc | apply Kd.R_drewN | apply Kd.R_drew)); exact HO_3.out) hb); have n1_ := Aside0.mk (below_step (by repeat (first | (with_reducible first | exact HB.out | apply below_alloc | apply pw_below_drewN | apply below_drew1) | exact HB.out)) hb); have n2_ := Aside0.mk (hbox); have n3_ := Aside0.mk ((by rw [hg]; exact (below_size (by repeat (first | (with_reducible first | exact HB.out | apply below_alloc | apply pw_below_drewN | apply below_drew1) | exact HB.out))) : w.heap.size ≤ gb105)); have n4_ := Aside0.mk ((by rw [hg]; exact (below_size (by repeat (first | (with_reducible first | exact HB.out | apply below_alloc | apply pw_below_drewN | apply below_drew1) | exact HB.out))) : w.heap.size ≤ gb105)); clear HO_3; clear HB; have HO_3 := n0_; have HB := n1_; have BK105 := n2_; have GW105 := n3_; have GE105 := n4_; clear n0_ n1_ n2_ n3_ n4_; clear hb hbox hg; have hcz13_0 : w12.cell? ⟨gb105, 0, none⟩ = some (.string (⟨#[]⟩ : ByteArray)) := (blk_cell BK105.out 0).trans rfl; have hcz13_1 : w12.cell? ⟨gb105, 1, none⟩ = some (.string (⟨#[]⟩ : ByteArray)) := (blk_cell BK105.out 1).trans rfl; have hcz13_2 : w12.cell? ⟨gb105, 2, none⟩ = some (.bool false) := (blk_cell BK105.out 2).trans rfl; have hfz13_0 := blk_frozen BK105.out 0; have hfz13_1 := blk_frozen BK105.out 1; have hfz13_2 := blk_frozen BK105.out 2) | ((with_reducible refine gate_builtin (b := .append) (xs := #[.tmp 25, .tmp 28]) rfl ?_); at_builtin; refine Kd.R_append Kd.string (w0 := w) w.heap.size rfl (.tmp 25) (.tmp 28) 31 9 (.string ⟨#[]⟩) 16 rfl Try.underlying31 info9 rfl (by decide) (by omega) u3 x3_1 ((rd_T70 l0 x8_1).f0) [.string ((rd_T70 l0 x8_1).f0)] (fun _ => True) (fun _ => False) rfl (by first | (go_simp; done) | (go_simp; rfl)) ?aP (fun _ hk => hk.elim) ?aF ?aO ?aB ?aS ?aL ?_; (case aP => exact rfl); (case aB => exact (by repeat (first | (with_reducible first | exact HB.out | apply below_alloc | apply pw_below_drewN | apply below_drew1 | refine below_set ?_ GE105.out) | exact HB.out))); (case aF => exact (fun _ _ => trivial)); (case aO => exact (by (with_reducible repeat (first | apply Kd.R_alloc | apply Kd.R_drewN | apply Kd.R_drew)); exact Kd.R_mono (Kd.R_far (p := ⟨gb105, 2, none⟩) (Kd.R_far (p := ⟨gb105, 1, none⟩) (Kd.R_far (p := ⟨gb105, 0, none⟩) (Kd.R_types HO_3.out BK105.out (by decide)) (fun _ hk => hk.2) (.string ((rd_T70 l0 x8_1).f0))) (fun _ hk => hk.2) (.string ((rd_T70 l0 x8_1).f1))) (fun _ hk => hk.2) (.bool true)) (fun _ hk => trivial))); (case aS => exact (below_size (by repeat (first | (with_reducible first | exact HB.out | apply below_alloc | apply pw_below_drewN | apply below_drew1 | refine below_set ?_ GE105.out) | exact HB.out)))); (case aL => have := LMc11.out; omega); intro v107 w14 ho hb hg hat; rw [← Ny106.out] at ho; have n0_ := Aside0.mk (blk_grown (g := gb105) (o := .cells #[.string ((rd_T70 l0 x8_1).f0), .string ((rd_T70 l0 x8_1).f1), .bool true] 70 (0, 0)) (by (with_reducible repeat (first | refine blk_drewN ?_ _ | refine blk_drew ?_ | refine blk_alloc ?_ _)); refine blk_put (cs := #[.string ((rd_T70 l0 x8_1).f0), .string ((rd_T70 l0 x8_1).f1), .bool false]) ?_ 2 _ rfl; (with_reducible repeat (first | refine blk_drewN ?_ _ | refine blk_drew ?_ | refine blk_alloc ?_ _)); refine blk_put (cs := #[.string ((rd_T70 l0 x8_1).f0), .string (⟨#[]⟩ : ByteArray), .bool false]) ?_ 1 _ rfl; (with_reducible repeat (first | refine blk_drewN ?_ _ | refine blk_drew ?_ | refine blk_alloc ?_ _)); refine blk_put (cs := #[.string (⟨#[]⟩ : ByteArray), .string (⟨#[]⟩ : ByteArray), .bool false]) ?_ 0 _ rfl; (with_reducible repeat (first | refine blk_drewN ?_ _ | refine blk_drew ?_ | refine blk_alloc ?_ _)); exact BK105.out) hg (Kd.R_ne HO_3.out BK105.out (by decide))); have n1_ := Aside0.mk (hb); have n2_ := Aside0.mk (ho); clear BK105; clear HB; clear HO_3; have BK105 := n0_; have HB := n1_; have HO108 := n2_; clear n0_ n1_ n2_; clear ho hb hg hat))
          go_roundg k1
          case measure => have := HK1.out; omega
          case rel => exact ⟨(y106), (wrap64 (x8_1 + 1)), (by first | rfl | (simp; done) | (simp [*]; done) | (simp [bne_nil_]; done)), H', ⟨by have := HK1.out; omega⟩, ⟨by (with_reducible repeat (first | apply Kd.R_alloc | apply Kd.R_drewN | apply Kd.R_drew)); exact HO108.out⟩, ⟨by repeat (first | (with_reducible first | exact HB.out | apply below_alloc | apply pw_below_drewN | apply below_drew1 | refine below_set ?_ GE105.out) | exact HB.out)⟩⟩
         ·rw [if_neg c11] at H
          exact absurd H (by simp)
        ·rw [if_neg c10] at H
         have c10b0 : (((rd_T70 l0 x8_1).f1).toList == ([] : List UInt8)) = false := beq_eq_false_iff_ne.mpr c10
         have c10b1 : (((rd_T70 l0 x8_1).f1).toList != ([] : List UInt8)) = true := bne_iff_ne.mpr c10
         obtain rfl := Option.some.inj H
         have p104 : 0 ≤ (x8_1 : Int) := of_decide_eq_true (by first | (with_reducible assumption) | assumption)
         have q104 : x8_1 < (l0.length : Int) := of_decide_eq_true (by first | (with_reducible assumption) | assumption)
         obtain ⟨ad104, e104, hx104_0, hx104_1, hx104_2⟩ := at_T70 HR0.out x8_1 p104 q104
         (try rw [← Nbq8.out] at hx104_2)
         cases e104
         replace hx104_0 := (HB.out.cell (World.block_lt_of_cell? w _ hx104_0)).trans hx104_0
         replace hx104_1 := (HB.out.cell (World.block_lt_of_cell? w _ hx104_1)).trans hx104_1
         replace hx104_2 := (HB.out.cell (World.block_lt_of_cell? w _ hx104_2)).trans hx104_2
         replace p104 := eq_true p104
         replace q104 := eq_true q104
         go_wp2_with (first | ((with_reducible refine gate_dst (N := 5) rfl ?_); refine box_event ?hg (N := 5) ?hd (cs := #[.string (⟨#[]⟩ : ByteArray), .string (⟨#[]⟩ : ByteArray), .bool false]) (t := 70) ?hr ?_; (case hd => rfl); (case hg => rfl); (case hr => first | (go_simp; done) | (go_simp; rfl)); intro gb105 hg w15 hbox hb; have n0_ := Aside0.mk (Kd.R_below (by (with_reducible repeat (first | apply Kd.R_alloc | apply Kd.R_drewN | apply Kd.R_drew)); exact HO_3.out) hb); have n1_ := Aside0.mk (below_step (by repeat (first | (with_reducible first | exact HB.out | apply below_alloc | apply pw_below_drewN | apply below_drew1) | exact HB.out)) hb); have n2_ := Aside0.mk (hbox); have n3_ := Aside0.mk ((by rw [hg]; exact (below_size (by repeat (first | (with_reducible first | exact HB.out | apply below_alloc | apply pw_below_drewN | apply below_drew1) | exact HB.out))) : w.heap.size ≤ gb105)); have n4_ := Aside0.mk ((by rw [hg]; exact (below_size (by repeat (first | (with_reducible first | exact HB.out | apply below_alloc | apply pw_below_drewN | apply below_drew1) | exact HB.out))) : w.heap.size ≤ gb105)); clear HO_3; clear HB; have HO_3 := n0_; have HB := n1_; have BK105 := n2_; have GW105 := n3_; have GE105 := n4_; clear n0_ n1_ n2_ n3_ n4_; clear hb hbox hg; have hcz16_0 : w15.cell? ⟨gb105, 0, none⟩ = some (.string (⟨#[]⟩ : ByteArray)) := (blk_cell BK105.out 0).trans rfl; have hcz16_1 : w15.cell? ⟨gb105, 1, none⟩ = some (.string (⟨#[]⟩ : ByteArray)) := (blk_cell BK105.out 1).trans rfl; have hcz16_2 : w15.cell? ⟨gb105, 2, none⟩ = some (.bool false) := (blk_cell BK105.out 2).trans rfl; have hfz16_0 := blk_frozen BK105.out 0; have hfz16_1 := blk_frozen BK105.out 1; have hfz16_2 := blk_frozen BK105.out 2))
         go_ret
         exact ⟨by first | rfl | (simp [errW_none, errW_some] <;> rfl) | (simp [*, errW_none, errW_some] <;> rfl), by repeat (first | (with_reducible first | exact HB.out | apply below_alloc | apply pw_below_drewN | apply below_drew1 | refine below_set ?_ GE105.out) | exact HB.out)⟩
       ·replace c9 := Bool.eq_false_iff.mpr c9
        subst c9
        have H1 : (if x3_1.length < 8796093022208 then (letter_writes.l0 k1 l0 (x3_1 ++ [(rd_T70 l0 x8_1).f0]) l0 (l0.length : Int) (wrap64 (x8_1 + 1))) else (none)) = some r := by rw [if_neg (show ¬ (false = true) by decide)] at H; exact H
        clear H
        have H := H1
        clear H1
        by_cases c17 : x3_1.length < 8796093022208
        ·rw [if_pos c17] at H
         have LMc17 := Aside0.mk c17
         clear c17
         obtain ⟨y109, hy109⟩ : ∃ y_ : List ByteArray, y_ = (x3_1 ++ [(rd_T70 l0 x8_1).f0]) := ⟨_, rfl⟩
         replace H : (letter_writes.l0 k1 l0 y109 l0 (l0.length : Int) (wrap64 (x8_1 + 1))) = some r := by first | (rw [hy109]; with_reducible exact H) | (have H2_ := (Option.bind_some _ _).symm.trans H; rw [hy109]; with_reducible exact H2_) | (have H2_ := (Option.bind_some _ _).symm.trans H; with_reducible exact H2_) | with_reducible exact H | (rw [hy109]; exact H) | exact H
         have Ny109 := Aside0.mk hy109
         clear hy109
         have H' := Aside0.mk H
         clear H
         have p104 : 0 ≤ (x8_1 : Int) := of_decide_eq_true (by first | (with_reducible assumption) | assumption)
         have q104 : x8_1 < (l0.length : Int) := of_decide_eq_true (by first | (with_reducible assumption) | assumption)
         obtain ⟨ad104, e104, hx104_0, hx104_1, hx104_2⟩ := at_T70 HR0.out x8_1 p104 q104
         (try rw [← Nbq8.out] at hx104_2)
         cases e104
         replace hx104_0 := (HB.out.cell (World.block_lt_of_cell? w _ hx104_0)).trans hx104_0
         replace hx104_1 := (HB.out.cell (World.block_lt_of_cell? w _ hx104_1)).trans hx104_1
         replace hx104_2 := (HB.out.cell (World.block_lt_of_cell? w _ hx104_2)).trans hx104_2
         replace p104 := eq_true p104
         replace q104 := eq_true q104
         go_wp2_with (first | ((with_reducible refine gate_dst (N := 5) rfl ?_); refine box_event ?hg (N := 5) ?hd (cs := #[.string (⟨#[]⟩ : ByteArray), .string (⟨#[]⟩ : ByteArray), .bool false]) (t := 70) ?hr ?_; (case hd => rfl); (case hg => rfl); (case hr => first | (go_simp; done) | (go_simp; rfl)); intro gb105 hg w18 hbox hb; have n0_ := Aside0.mk (Kd.R_below (by (with_reducible repeat (first | apply Kd.R_alloc | apply Kd.R_drewN | apply Kd.R_drew)); exact HO_3.out) hb); have n1_ := Aside0.mk (below_step (by repeat (first | (with_reducible first | exact HB.out | apply below_alloc | apply pw_below_drewN | apply below_drew1) | exact HB.out)) hb); have n2_ := Aside0.mk (hbox); have n3_ := Aside0.mk ((by rw [hg]; exact (below_size (by repeat (first | (with_reducible first | exact HB.out | apply below_alloc | apply pw_below_drewN | apply below_drew1) | exact HB.out))) : w.heap.size ≤ gb105)); have n4_ := Aside0.mk ((by rw [hg]; exact (below_size (by repeat (first | (with_reducible first | exact HB.out | apply below_alloc | apply pw_below_drewN | apply below_drew1) | exact HB.out))) : w.heap.size ≤ gb105)); clear HO_3; clear HB; have HO_3 := n0_; have HB := n1_; have BK105 := n2_; have GW105 := n3_; have GE105 := n4_; clear n0_ n1_ n2_ n3_ n4_; clear hb hbox hg; have hcz19_0 : w18.cell? ⟨gb105, 0, none⟩ = some (.string (⟨#[]⟩ : ByteArray)) := (blk_cell BK105.out 0).trans rfl; have hcz19_1 : w18.cell? ⟨gb105, 1, none⟩ = some (.string (⟨#[]⟩ : ByteArray)) := (blk_cell BK105.out 1).trans rfl; have hcz19_2 : w18.cell? ⟨gb105, 2, none⟩ = some (.bool false) := (blk_cell BK105.out 2).trans rfl; have hfz19_0 := blk_frozen BK105.out 0; have hfz19_1 := blk_frozen BK105.out 1; have hfz19_2 := blk_frozen BK105.out 2) | ((with_reducible refine gate_builtin (b := .append) (xs := #[.tmp 25, .tmp 28]) rfl ?_); at_builtin; refine Kd.R_append Kd.string (w0 := w) w.heap.size rfl (.tmp 25) (.tmp 28) 31 9 (.string ⟨#[]⟩) 16 rfl Try.underlying31 info9 rfl (by decide) (by omega) u3 x3_1 ((rd_T70 l0 x8_1).f0) [.string ((rd_T70 l0 x8_1).f0)] (fun _ => True) (fun _ => False) rfl (by first | (go_simp; done) | (go_simp; rfl)) ?aP (fun _ hk => hk.elim) ?aF ?aO ?aB ?aS ?aL ?_; (case aP => exact rfl); (case aB => exact (by repeat (first | (with_reducible first | exact HB.out | apply below_alloc | apply pw_below_drewN | apply below_drew1 | refine below_set ?_ GE105.out) | exact HB.out))); (case aF => exact (fun _ _ => trivial)); (case aO => exact (by (with_reducible repeat (first | apply Kd.R_alloc | apply Kd.R_drewN | apply Kd.R_drew)); exact Kd.R_mono (Kd.R_far (p := ⟨gb105, 2, none⟩) (Kd.R_far (p := ⟨gb105, 1, none⟩) (Kd.R_far (p := ⟨gb105, 0, none⟩) (Kd.R_types HO_3.out BK105.out (by decide)) (fun _ hk => hk.2) (.string ((rd_T70 l0 x8_1).f0))) (fun _ hk => hk.2) (.string ((rd_T70 l0 x8_1).f1))) (fun _ hk => hk.2) (.bool false)) (fun _ hk => trivial))); (case aS => exact (below_size (by repeat (first | (with_reducible first | exact HB.out | apply below_alloc | apply pw_below_drewN | apply below_drew1 | refine below_set ?_ GE105.out) | exact HB.out)))); (case aL => have := LMc17.out; omega); intro v110 w20 ho hb hg hat; rw [← Ny109.out] at ho; have n0_ := Aside0.mk (blk_grown (g := gb105) (o := .cells #[.string ((rd_T70 l0 x8_1).f0), .string ((rd_T70 l0 x8_1).f1), .bool false] 70 (0, 0)) (by (with_reducible repeat (first | refine blk_drewN ?_ _ | refine blk_drew ?_ | refine blk_alloc ?_ _)); refine blk_put (cs := #[.string ((rd_T70 l0 x8_1).f0), .string ((rd_T70 l0 x8_1).f1), .bool false]) ?_ 2 _ rfl; (with_reducible repeat (first | refine blk_drewN ?_ _ | refine blk_drew ?_ | refine blk_alloc ?_ _)); refine blk_put (cs := #[.string ((rd_T70 l0 x8_1).f0), .string (⟨#[]⟩ : ByteArray), .bool false]) ?_ 1 _ rfl; (with_reducible repeat (first | refine blk_drewN ?_ _ | refine blk_drew ?_ | refine blk_alloc ?_ _)); refine blk_put (cs := #[.string (⟨#[]⟩ : ByteArray), .string (⟨#[]⟩ : ByteArray), .bool false]) ?_ 0 _ rfl; (with_reducible repeat (first | refine blk_drewN ?_ _ | refine blk_drew ?_ | refine blk_alloc ?_ _)); exact BK105.out) hg (Kd.R_ne HO_3.out BK105.out (by decide))); have n1_ := Aside0.mk (hb); have n2_ := Aside0.mk (ho); clear BK105; clear HB; clear HO_3; have BK105 := n0_; have HB := n1_; have HO111 := n2_; clear n0_ n1_ n2_; clear ho hb hg hat))
         go_roundg k1
         case measure => have := HK1.out; omega
         case rel => exact ⟨(y109), (wrap64 (x8_1 + 1)), (by first | rfl | (simp; done) | (simp [*]; done) | (simp [bne_nil_]; done)), H', ⟨by have := HK1.out; omega⟩, ⟨by (with_reducible repeat (first | apply Kd.R_alloc | apply Kd.R_drewN | apply Kd.R_drew)); exact HO111.out⟩, ⟨by repeat (first | (with_reducible first | exact HB.out | apply below_alloc | apply pw_below_drewN | apply below_drew1 | refine below_set ?_ GE105.out) | exact HB.out)⟩⟩
        ·rw [if_neg c17] at H
         exact absurd H (by simp)
     ·rw [if_neg c4] at H
      exact absurd H (by simp)
    ·rw [if_neg c3] at H
     exact absurd H (by simp)
   ·rw [if_neg c2] at H
    have c2b0 : decide (x8_1 < (l0.length : Int)) = false := decide_eq_false c2
    clear c2
    by_cases c21 : (l0.length : Int) ≤ 16
    ·rw [if_pos c21] at H
     have c21b0 : decide ((l0.length : Int) ≤ 16) = true := decide_eq_true c21
     have c21b1 : decide (l0.length ≤ 16) = true := decide_eq_true (by omega)
     clear c21
     replace H := Option.bind_eq_some_iff.mp H
     obtain ⟨t112, A220, H⟩ := H
     replace H : (some t112) = some r := H
     have A22 := Aside0.mk A220
     clear A220
     obtain rfl := Option.some.inj H
     obtain ⟨Ao23, co23, eo23⟩ := Kd.R_slice HO_3.out
     subst eo23
     go_wp2_with (first | (go_at_call 33; (with_reducible refine (letter_Rising.calls k1 _ _ x3_1 t112 _ ?side1 ?side2 A22.out).mono ?_); (case side1 => repeat (first | exact (Kd.R_reads' HO_3.out).2.2 | (with_reducible refine Kd.C_alloc ?_ _) | (with_reducible refine Kd.C_drewN ?_ _) | (with_reducible refine Kd.C_drew ?_))); (case side2 => exact (Kd.R_reads' HO_3.out).2.1); rintro e w' ⟨rfl, ⟨nd, rfl⟩⟩))
     go_ret
     exact ⟨by first | rfl | (simp [errW_none, errW_some] <;> rfl) | (simp [*, errW_none, errW_some] <;> rfl), by repeat (first | (with_reducible first | exact HB.out | apply below_alloc | apply pw_below_drewN | apply below_drew1) | exact HB.out)⟩
    ·rw [if_neg c21] at H
     have c21b0 : decide ((l0.length : Int) ≤ 16) = false := decide_eq_false c21
     have c21b1 : decide (l0.length ≤ 16) = false := decide_eq_false (by omega)
     clear c21
     obtain rfl := Option.some.inj H
     go_wp2
     go_ret
     exact ⟨by first | rfl | (simp [errW_none, errW_some] <;> rfl) | (simp [*, errW_none, errW_some] <;> rfl), by repeat (first | (with_reducible first | exact HB.out | apply below_alloc | apply pw_below_drewN | apply below_drew1) | exact HB.out)⟩

end Go.Proofs.Ytdecpagcaondiaa.Al

/- One function of the program comes to what its plain twin says. This text began as the kit's own print (print.py, made by cprint.sh) and was turned by split.py: it is no printed file. -/
namespace Go.Proofs.Ytdecpagcaondiaa.Al
open Go.RowKit Go.Proofs.YtdecpagcaondiaaW.PrintWords Go.Proofs.YtdecpagcaondiaaW.PrintLast Go.Proofs.YtdecpagcaondiaaW.PrintMore
attribute [local go_sem] max2_int min2_int max_two min_two max_three min_three max_four min_four   -- for this text's walks alone
set_option linter.unusedVariables false
set_option linter.unusedSimpArgs false

/-! ### letter_address: function 31 -/
def letter_address.f (a0 : Int) : Option (Bool) := if a0 ≥ 0 then (if a0 < 12 then (some true) else (if a0 ≥ 100 then (some (decide (a0 < 116))) else (some false))) else (if a0 ≥ 100 then (some (decide (a0 < 116))) else (some false))
set_option maxHeartbeats 8000000 in
set_option maxRecDepth 100000 in
theorem letter_address.calls (a0 : Int) (r : Bool) (w : World) (h : letter_address.f a0 = some r) :
  Calls Try.prog 31 #[.int .i64 a0] w fun e w' => e = .returned (.bool r) ∧ Drawn0 w w' := by
 have H : (if a0 ≥ 0 then (if a0 < 12 then (some true) else (if a0 ≥ 100 then (some (decide (a0 < 116))) else (some false))) else (if a0 ≥ 100 then (some (decide (a0 < 116))) else (some false))) = some r := h
 clear h
 by_cases c2 : a0 ≥ 0
 ·rw [if_pos c2] at H
  have c2b0 : decide (0 ≤ a0) = true := decide_eq_true c2
  clear c2
  by_cases c3 : a0 < 12
  ·rw [if_pos c3] at H
   have c3b0 : decide (a0 < 12) = true := decide_eq_true c3
   clear c3
   obtain rfl := Option.some.inj H
   go_enter Try.func31, Try.ntmps31
   go_wp2
   go_ret
   exact ⟨by first | rfl | (simp; done) | (simp [*]; done), by repeat (first | exact Drawn0.refl _ | apply Drawn0.step)⟩
  ·rw [if_neg c3] at H
   have c3b0 : decide (a0 < 12) = false := decide_eq_false c3
   clear c3
   by_cases c4 : a0 ≥ 100
   ·rw [if_pos c4] at H
    have c4b0 : decide (100 ≤ a0) = true := decide_eq_true c4
    clear c4
    obtain rfl := Option.some.inj H
    go_enter Try.func31, Try.ntmps31
    go_wp2
    go_ret
    exact ⟨by first | rfl | (simp; done) | (simp [*]; done), by repeat (first | exact Drawn0.refl _ | apply Drawn0.step)⟩
   ·rw [if_neg c4] at H
    have c4b0 : decide (100 ≤ a0) = false := decide_eq_false c4
    clear c4
    obtain rfl := Option.some.inj H
    go_enter Try.func31, Try.ntmps31
    go_wp2
    go_ret
    exact ⟨by first | rfl | (simp; done) | (simp [*]; done), by repeat (first | exact Drawn0.refl _ | apply Drawn0.step)⟩
 ·rw [if_neg c2] at H
  have c2b0 : decide (0 ≤ a0) = false := decide_eq_false c2
  clear c2
  by_cases c5 : a0 ≥ 100
  ·rw [if_pos c5] at H
   have c5b0 : decide (100 ≤ a0) = true := decide_eq_true c5
   clear c5
   obtain rfl := Option.some.inj H
   go_enter Try.func31, Try.ntmps31
   go_wp2
   go_ret
   exact ⟨by first | rfl | (simp; done) | (simp [*]; done), by repeat (first | exact Drawn0.refl _ | apply Drawn0.step)⟩
  ·rw [if_neg c5] at H
   have c5b0 : decide (100 ≤ a0) = false := decide_eq_false c5
   clear c5
   obtain rfl := Option.some.inj H
   go_enter Try.func31, Try.ntmps31
   go_wp2
   go_ret
   exact ⟨by first | rfl | (simp; done) | (simp [*]; done), by repeat (first | exact Drawn0.refl _ | apply Drawn0.step)⟩

end Go.Proofs.Ytdecpagcaondiaa.Al

/- Plain lemmas on bytes, on wraps and on bits, without the program. -/
namespace Go.Proofs.Ytdecpagcaondiaa.Base
open Go.RowKit Go.Proofs.YtdecpagcaondiaaW.PrintWords

theorem Ev.pos {α : Type} {c : Prop} [Decidable c] {f g : Nat → Option α} {r : α} (h : c) (k : Ev f r) : Ev (fun n => if c then f n else g n) r := by
 simpa only [if_pos h] using k
theorem Ev.neg {α : Type} {c : Prop} [Decidable c] {f g : Nat → Option α} {r : α} (h : ¬ c) (k : Ev g r) : Ev (fun n => if c then f n else g n) r := by
 simpa only [if_neg h] using k
theorem Ev.some_bind {α β : Type} {a : α} {f : Nat → α → Option β} {r : β} (k : Ev (fun n => f n a) r) : Ev (fun n => (some a).bind (f n)) r := k

theorem wrap_id {n : Int} (h0 : -9223372036854775808 ≤ n) (h1 : n < 9223372036854775808) : wrap64 n = n := by
 unfold wrap64; omega

theorem ofInt_i64 (a : Nat) (ha : a < 9223372036854775808) : (BitVec.ofInt 64 (a : Int)).toNat = a := by
 rw [BitVec.ofInt_natCast, BitVec.toNat_ofNat]; exact Nat.mod_eq_of_lt (by omega)
theorem xor_i64_nat (a b : Nat) (ha : a < 9223372036854775808) (hb : b < 9223372036854775808) : Go.bits .xor .i64 (a : Int) (b : Int) = ((a ^^^ b : Nat) : Int) := by
 have hx : a ^^^ b < 2 ^ 63 := Nat.xor_lt_two_pow (by omega) (by omega)
 show IntKind.i64.wrap ((BitVec.ofInt 64 (a : Int) ^^^ BitVec.ofInt 64 (b : Int)).toNat : Int) = _
 rw [BitVec.toNat_xor, ofInt_i64 a ha, ofInt_i64 b hb, IntKind.wrap_i64]
 omega
theorem or_i64_nat (a b : Nat) (ha : a < 9223372036854775808) (hb : b < 9223372036854775808) : Go.bits .or .i64 (a : Int) (b : Int) = ((a ||| b : Nat) : Int) := by
 have hx : a ||| b < 2 ^ 63 := Nat.or_lt_two_pow (by omega) (by omega)
 show IntKind.i64.wrap ((BitVec.ofInt 64 (a : Int) ||| BitVec.ofInt 64 (b : Int)).toNat : Int) = _
 rw [BitVec.toNat_or, ofInt_i64 a ha, ofInt_i64 b hb, IntKind.wrap_i64]
 omega
theorem and_i64_nat (a b : Nat) (ha : a < 9223372036854775808) (hb : b < 9223372036854775808) : Go.bits .and .i64 (a : Int) (b : Int) = ((a &&& b : Nat) : Int) := by
 have hx : a &&& b < 2 ^ 63 := Nat.and_lt_two_pow _ (by omega)
 show IntKind.i64.wrap ((BitVec.ofInt 64 (a : Int) &&& BitVec.ofInt 64 (b : Int)).toNat : Int) = _
 rw [BitVec.toNat_and, ofInt_i64 a ha, ofInt_i64 b hb, IntKind.wrap_i64]
 omega

/-- A string's bytes. -/
def B (s : ByteArray) : List UInt8 := s.data.toList
theorem B_len (s : ByteArray) : (B s).length = s.size := data_length s
theorem B_inj {s t : ByteArray} (h : B s = B t) : s = t := by
 cases s; cases t; simp only [B] at h; simpa [Array.toList_inj] using h
theorem B_append (s t : ByteArray) : B (s ++ t) = B s ++ B t := by simp [B]
theorem B_nums (l : List Int) : B (strOfNums l) = l.map fun n => UInt8.ofNat n.toNat := rfl
theorem B_extract (s : ByteArray) (i j : Nat) : B (s.extract i j) = ((B s).take j).drop i := by
 simp [B, ByteArray.data_extract, List.extract_eq_take_drop, List.drop_take]
theorem B_empty : B (⟨#[]⟩ : ByteArray) = [] := rfl
theorem bt_B (s : ByteArray) (i : Nat) (h : i < (B s).length) : bt s (i : Int) = (((B s)[i]).toNat : Int) := by
 have h' : i < s.size := by rw [← B_len]; exact h
 unfold bt
 simp only [Int.toNat_natCast, h', dif_pos]
 rfl
theorem B_mk (l : List UInt8) : B ⟨l.toArray⟩ = l := by simp [B]
theorem toList_loop (s : ByteArray) : ∀ (d i : Nat) (r : List UInt8), s.size - i = d → ByteArray.toList.loop s i r = r.reverse ++ (B s).drop i
 | 0, i, r, h => by
  unfold ByteArray.toList.loop
  rw [if_neg (by omega), List.drop_of_length_le (by rw [B_len]; omega), List.append_nil]
 | d + 1, i, r, h => by
  have hi : i < s.size := by omega
  unfold ByteArray.toList.loop
  rw [if_pos hi, toList_loop s d (i + 1) _ (by omega)]
  have e : (B s).drop i = s.get! i :: (B s).drop (i + 1) := by
   rw [List.drop_eq_getElem_cons (by rw [B_len]; exact hi)]
   congr 1
   simp [B, ByteArray.get!, hi]
  rw [e]
  simp
theorem toList_eq (s : ByteArray) : s.toList = B s := by
 unfold ByteArray.toList
 rw [toList_loop s _ 0 [] rfl]
 simp
end Go.Proofs.Ytdecpagcaondiaa.Base

/- Keys, keys that rise, writes and letters that may be: plain functions, and what the program's small functions come to. -/
namespace Go.Proofs.Ytdecpagcaondiaa.LetSpec
open Go.RowKit Go.Proofs.Ytdecpagcaondiaa.Base Go.Proofs.Ytdecpagcaondiaa.Al Go.Proofs.YtdecpagcaondiaaW.PrintWords
theorem Ev.succ {α : Type} {g : Nat → Option α} {r : α} (h : Ev (fun k => g (k + 1)) r) : Ev g r := Ev.step (fun _ => rfl) h
def keyB (s : ByteArray) : Bool := decide (1 ≤ s.size ∧ s.size ≤ 32)
def addrB (n : Int) : Bool := decide ((0 ≤ n ∧ n < 12) ∨ (100 ≤ n ∧ n < 116))
def risFrom : Option ByteArray → List ByteArray → Bool
 | _, [] => true
 | none, s :: l => keyB s && risFrom (some s) l
 | some p, s :: l => keyB s && (Op.bytesLess p.toList s.toList && risFrom (some s) l)
def risB (l : List ByteArray) : Bool := risFrom none l
def oneW (x : S70) : Bool := decide (x.f1.size ≤ 2052) && (!x.f2 || x.f1.toList.isEmpty)
def wriB (l : List S70) : Bool := l.all oneW && (decide (l.length ≤ 16) && risB (l.map fun x => x.f0))
theorem empty_iff (s : ByteArray) : s.toList = [] ↔ s.size = 0 := by
 rw [toList_eq, ← B_len]
 exact List.length_eq_zero_iff.symm
theorem key_eq (s : ByteArray) : letter_Key.f s = some (keyB s) := by
 unfold letter_Key.f keyB
 by_cases h : s.toList = []
 ·rw [if_pos h, decide_eq_false (by have := (empty_iff s).1 h; omega)]
 ·rw [if_neg h]
  congr 1
  have : s.size ≠ 0 := fun hc => h ((empty_iff s).2 hc)
  apply decide_eq_decide.2
  omega
theorem address_eq (n : Int) : letter_address.f n = some (addrB n) := by
 unfold letter_address.f addrB
 split
 ·split
  ·rw [decide_eq_true (by omega)]
  ·split
   ·congr 1; apply decide_eq_decide.2; omega
   ·rw [decide_eq_false (by omega)]
 ·split
  ·congr 1; apply decide_eq_decide.2; omega
  ·rw [decide_eq_false (by omega)]
theorem rdOf_get {l : List ByteArray} {i : Nat} (h : i < l.length) : rdOf ByteArray.empty l (i : Int) = l[i] := by simp [rdOf, List.getD_eq_getElem?_getD, h]
def prevOf (l : List ByteArray) (i : Nat) : Option ByteArray := if i = 0 then none else l[i - 1]?
theorem rising_l0 (l : List ByteArray) (hl : l.length ≤ 4611686018427387904) : ∀ (d i : Nat), i + d = l.length → Ev (fun k => letter_Rising.l0 k l l (l.length : Int) i) (risFrom (prevOf l i) (l.drop i))
 | 0, i, h => by
  refine Ev.succ ?_
  simp only [letter_Rising.l0]
  rw [List.drop_of_length_le (by omega)]
  refine Ev.neg (by omega) ?_
  have : risFrom (prevOf l i) [] = true := by cases prevOf l i <;> rfl
  rw [this]
  exact Ev.now _
 | d + 1, i, h => by
  have hi : i < l.length := by omega
  have ih := rising_l0 l hl d (i + 1) (by omega)
  have e : wrap64 ((i : Int) + 1) = ((i + 1 : Nat) : Int) := by rw [wrap_id (by omega) (by omega)]; omega
  have hp : prevOf l (i + 1) = some l[i] := by simp [prevOf, hi]
  rw [hp] at ih
  refine Ev.succ ?_
  simp only [letter_Rising.l0]
  rw [e, rdOf_get hi, key_eq, List.drop_eq_getElem_cons hi]
  refine Ev.pos (by omega) (Ev.pos (by omega) (Ev.pos (by omega) (Ev.some_bind ?_)))
  by_cases hk : keyB l[i] = true
  ·refine Ev.pos hk ?_
   by_cases h0 : i = 0
   ·subst h0
    refine Ev.neg (by omega) ?_
    have e2 : risFrom (prevOf l 0) (l[0] :: l.drop (0 + 1)) = risFrom (some l[0]) (l.drop (0 + 1)) := by
     show (keyB l[0] && risFrom (some l[0]) (l.drop 1)) = _
     rw [hk, Bool.true_and]
    rw [e2]
    exact ih
   ·have h1 : i - 1 < l.length := by omega
    have e1 : wrap64 ((i : Int) - 1) = ((i - 1 : Nat) : Int) := by rw [wrap_id (by omega) (by omega)]; omega
    have hpr : prevOf l i = some l[i - 1] := by simp [prevOf, h0, h1]
    rw [e1, hpr, rdOf_get h1]
    have e2 : risFrom (some l[i - 1]) (l[i] :: l.drop (i + 1)) = (Op.bytesLess l[i - 1].toList l[i].toList && risFrom (some l[i]) (l.drop (i + 1))) := by
     show (keyB l[i] && _) = _
     rw [hk, Bool.true_and]
    rw [e2]
    refine Ev.pos (by omega) (Ev.pos (by omega) (Ev.pos (by omega) ?_))
    by_cases hb : Op.bytesLess l[i - 1].toList l[i].toList = true
    ·rw [hb, Bool.true_and]
     refine Ev.pos rfl ?_
     exact ih
    ·have hb' : Op.bytesLess l[i - 1].toList l[i].toList = false := by simpa using hb
     rw [hb', Bool.false_and]
     exact Ev.neg (by simp) (Ev.now _)
  ·have hk' : keyB l[i] = false := by simpa using hk
   rw [hk']
   have e2 : risFrom (prevOf l i) (l[i] :: l.drop (i + 1)) = false := by
    cases prevOf l i with
    | none => show (keyB l[i] && _) = _; rw [hk']; rfl
    | some p => show (keyB l[i] && _) = _; rw [hk']; rfl
   rw [e2]
   exact Ev.neg (by simp) (Ev.now _)
theorem rising_ev (l : List ByteArray) (hl : l.length ≤ 4611686018427387904) : Ev (fun k => letter_Rising.f k l) (risB l) := rising_l0 l hl l.length 0 (by omega)
theorem rdT_get {l : List S70} {i : Nat} (h : i < l.length) : rd_T70 l (i : Int) = l[i] := by simp [rd_T70, List.getD_eq_getElem?_getD, h]
theorem writes_l0 (l : List S70) (hl : l.length ≤ 8796093022000) : ∀ (d i : Nat), i + d = l.length → (l.take i).all oneW = true → Ev (fun k => letter_writes.l0 k l ((l.take i).map fun x => x.f0) l (l.length : Int) i) (wriB l)
 | 0, i, h, ha => by
  have hi : l.take i = l := List.take_of_length_le (by omega)
  rw [hi] at ha ⊢
  have hw : wriB l = (decide (l.length ≤ 16) && risB (l.map fun x => x.f0)) := by unfold wriB; rw [ha, Bool.true_and]
  rw [hw]
  refine Ev.succ ?_
  simp only [letter_writes.l0]
  refine Ev.neg (by omega) ?_
  by_cases h16 : l.length ≤ 16
  ·rw [decide_eq_true h16, Bool.true_and]
   exact Ev.pos (by omega) (Ev.bind (rising_ev _ (by simp; omega)) (Ev.now _))
  ·rw [decide_eq_false h16, Bool.false_and]
   exact Ev.neg (by omega) (Ev.now _)
 | d + 1, i, h, ha => by
  have hi : i < l.length := by omega
  have e : wrap64 ((i : Int) + 1) = ((i + 1 : Nat) : Int) := by rw [wrap_id (by omega) (by omega)]; omega
  have hlen : ((l.take i).map fun x => x.f0).length = i := by simp; omega
  have htk : l.take (i + 1) = l.take i ++ [l[i]] := by rw [List.take_succ_eq_append_getElem hi]
  have bad : oneW l[i] = false → wriB l = false := fun hf => by
   unfold wriB
   have : l.all oneW = false := List.all_eq_false.2 ⟨l[i], List.getElem_mem hi, by simp [hf]⟩
   rw [this, Bool.false_and]
  refine Ev.succ ?_
  simp only [letter_writes.l0]
  rw [e, rdT_get hi, hlen]
  refine Ev.pos (by omega) (Ev.pos (by omega) (Ev.pos (by omega) ?_))
  by_cases hs : l[i].f1.size ≤ 2052
  ·refine Ev.neg (by omega) ?_
   have good : oneW l[i] = true → Ev (fun k => letter_writes.l0 k l ((l.take i).map (fun x => x.f0) ++ [l[i].f0]) l (l.length : Int) ((i + 1 : Nat) : Int)) (wriB l) := fun ho => by
    have ih := writes_l0 l hl d (i + 1) (by omega) (by rw [htk, List.all_append, ha]; simp [ho])
    rw [htk, List.map_append] at ih
    exact ih
   by_cases hd : l[i].f2 = true
   ·refine Ev.pos hd ?_
    by_cases he : l[i].f1.toList = []
    ·exact Ev.pos he (Ev.pos (by omega) (good (by simp [oneW, hs, he])))
    ·rw [bad (by simp [oneW, hd, he])]
     exact Ev.neg he (Ev.now _)
   ·have hd' : l[i].f2 = false := by simpa using hd
    exact Ev.neg hd (Ev.pos (by omega) (good (by simp [oneW, hs, hd'])))
  ·rw [bad (by simp [oneW, hs])]
   exact Ev.pos (by omega) (Ev.now _)
theorem writes_ev (l : List S70) (hl : l.length ≤ 8796093022000) : Ev (fun k => letter_writes.f k l) (wriB l) := writes_l0 l hl l.length 0 (by omega) rfl
/-- What the switch over the kinds leaves: the greatest code, whether keys, writes and text may be. -/
def sw (kind code : Int) (text : ByteArray) (l7 : List ByteArray) (l8 : List S70) : Option (Int × Bool × Bool × Bool) :=
 if kind = 2 then some (4, decide (l7.length = 1) && keyB (rdOf ByteArray.empty l7 0), (l8.length : Int) == 0, decide (text.size ≤ 2052) && (text.toList.isEmpty || code == 1))
 else if kind = 1 then some (0, decide (l7.length = 1) && keyB (rdOf ByteArray.empty l7 0), (l8.length : Int) == 0, text.toList.isEmpty)
 else if kind = 3 then some (0, decide (l7.length ≤ 16) && risB l7, wriB l8, text.toList.isEmpty)
 else if kind = 8 then some (2, (l7.length : Int) == 0, (l8.length : Int) == 0, text.toList.isEmpty)
 else if kind = 4 then some (1, (l7.length : Int) == 0, (l8.length : Int) == 0, text.toList.isEmpty)
 else if kind = 5 ∨ kind = 6 ∨ kind = 7 then some (0, (l7.length : Int) == 0, (l8.length : Int) == 0, text.toList.isEmpty)
 else none
def fin4 (code : Int) : Option (Int × Bool × Bool × Bool) → Int
 | none => 70
 | some (m, a, b, c) => if code ≤ m ∧ a = true ∧ b = true ∧ c = true then 0 else 70
/-- Which letters may be: 0, or 70. -/
def chkL (kind src dst txn ts code : Int) (text : ByteArray) (l7 : List ByteArray) (l8 : List S70) : Int :=
 if addrB src = true ∧ addrB dst = true ∧ 1 ≤ txn ∧ txn ≤ 1125899906842623 ∧ 0 ≤ ts ∧ ts ≤ 1125899906842624 ∧ 0 ≤ code then fin4 code (sw kind code text l7 l8) else 70
section
variable (w : World)
theorem key_calls (s : ByteArray) : Calls Try.prog 32 #[.string s] w fun e w' => e = .returned (.bool (keyB s)) ∧ Drawn0 w w' := letter_Key.calls s _ w (key_eq s)
theorem address_calls (n : Int) : Calls Try.prog 31 #[.int .i64 n] w fun e w' => e = .returned (.bool (addrB n)) ∧ Drawn0 w w' := letter_address.calls n _ w (address_eq n)
theorem rising_calls (A : Option Addr) (c : Nat) (l : List ByteArray) (hr : Kd.C Kd.string w A l.length l) (hc : l.length ≤ c) (hl : l.length ≤ 8796093022000) : Calls Try.prog 33 #[.slice A l.length c] w fun e w' => e = .returned (.bool (risB l)) ∧ Drawn0 w w' := by
 obtain ⟨k, hk⟩ := Ev.rounds (rising_ev l (by omega))
 exact letter_Rising.calls k A c l _ w hr hc hk
theorem writes_calls (A : Option Addr) (c : Nat) (l : List S70) (hr : Kd.C k70 w A l.length l) (hc : l.length ≤ c) (hl : l.length ≤ 8796093022000) : Calls Try.prog 34 #[.slice A l.length c] w fun e w' => e = .returned (.bool (wriB l)) ∧ Below w.heap.size w w' := by
 obtain ⟨k, hk⟩ := Ev.rounds (writes_ev l hl)
 exact letter_writes.calls k A c l _ w hr hc hk
end
end Go.Proofs.Ytdecpagcaondiaa.LetSpec

/- Votes and what nodes tell: plain functions of letters. -/
namespace Go.Proofs.Ytdecpagcaondiaa.TermSpec
open Go.RowKit Go.Proofs.Ytdecpagcaondiaa.Base Go.Proofs.Ytdecpagcaondiaa.Al Go.Proofs.Ytdecpagcaondiaa.LetSpec Go.Proofs.YtdecpagcaondiaaW.PrintWords
set_option linter.unusedVariables false
set_option linter.unusedSimpArgs false
def chkS (x : S34) : Int := chkL x.f0 x.f1 x.f2 x.f3 x.f4 x.f5 x.f6 x.f7 x.f8
/-- Does a letter count? -/
def okB (nodes txn kind : Int) (x : S34) : Bool := decide (x.f0 = kind ∧ x.f3 = txn ∧ 0 ≤ x.f1 ∧ x.f1 < nodes ∧ chkS x = 0)
/-- The places of the first letters that count, by nodes, of the first i letters. -/
def tab (nodes txn kind : Int) (l : List S34) : Nat → List (Option Nat)
 | 0 => List.replicate nodes.toNat none
 | i + 1 => if okB nodes txn kind (rd_T34 l i) = true ∧ rdOf none (tab nodes txn kind l i) (rd_T34 l i).f1 = none then (tab nodes txn kind l i).set (rd_T34 l i).f1.toNat (some i) else tab nodes txn kind l i
theorem tab_len (nodes txn kind : Int) (l : List S34) : ∀ i, (tab nodes txn kind l i).length = nodes.toNat
 | 0 => by simp [tab]
 | i + 1 => by
  unfold tab
  split
  ·rw [List.length_set]; exact tab_len nodes txn kind l i
  ·exact tab_len nodes txn kind l i
theorem tab_yes {nodes txn kind : Int} {l : List S34} {i : Nat} (h : okB nodes txn kind (rd_T34 l i) = true) (h' : rdOf none (tab nodes txn kind l i) (rd_T34 l i).f1 = none) : tab nodes txn kind l (i + 1) = (tab nodes txn kind l i).set (rd_T34 l i).f1.toNat (some i) := by
 rw [tab, if_pos ⟨h, h'⟩]
theorem tab_no {nodes txn kind : Int} {l : List S34} {i : Nat} (h : ¬ (okB nodes txn kind (rd_T34 l i) = true ∧ rdOf none (tab nodes txn kind l i) (rd_T34 l i).f1 = none)) : tab nodes txn kind l (i + 1) = tab nodes txn kind l i := by
 rw [tab, if_neg h]
theorem tab_lt (nodes txn kind : Int) (l : List S34) : ∀ (i : Nat) (j p : Nat), (tab nodes txn kind l i)[j]? = some (some p) → p < i
 | 0, j, p, h => by
  simp only [tab, List.getElem?_replicate] at h
  split at h <;> cases h
 | i + 1, j, p, h => by
  unfold tab at h
  split at h
  ·rw [List.getElem?_set] at h
   split at h
   ·split at h
    ·cases h; omega
    ·cases h
   ·have := tab_lt nodes txn kind l i j p h; omega
  ·have := tab_lt nodes txn kind l i j p h; omega
/-- What is wrong with what is asked. -/
def wrongL (nodes me txn : Int) (n : Nat) : Int := if nodes < 1 ∨ 12 < nodes ∨ me < 0 ∨ nodes ≤ me ∨ txn < 1 ∨ 1125899906842623 < txn then 1 else if 1024 < n then 2 else 0
def full (nodes txn kind : Int) (l : List S34) : List (Option Nat) := tab nodes txn kind l l.length
/-- Votes. -/
def vgo (l : List S34) : List (Option Nat) → Int → Int
 | [], o => o
 | none :: r, _ => vgo l r 0
 | some p :: r, o => if (rd_T34 l p).f5 = 0 then 2 else vgo l r o
def votesL (nodes txn : Int) (l : List S34) : Int × Int := if wrongL nodes 0 txn l.length = 0 then (vgo l (full nodes txn 4 l) 1, 0) else (0, wrongL nodes 0 txn l.length)
/-- Who is missing. -/
def mgo : List (Option Nat) → Nat → List Int
 | [], _ => []
 | none :: r, j => (j : Int) :: mgo r (j + 1)
 | some _ :: r, j => mgo r (j + 1)
def missL (nodes txn kind : Int) (l : List S34) : List Int × Int := if wrongL nodes 0 txn l.length = 0 then (mgo (full nodes txn kind l) 0, 0) else ([], wrongL nodes 0 txn l.length)
/-- What nodes told: how many none, how many dead, the time; or that they are at odds. -/
def tgo (l : List S34) (me : Int) : List (Option Nat) → Nat → Int → Int → Int → Option (Int × Int × Int)
 | [], _, none_, dead, ts => some (none_, dead, ts)
 | none :: r, j, n, d, t => tgo l me r (j + 1) n d t
 | some p :: r, j, n, d, t =>
  if (j : Int) = me then tgo l me r (j + 1) n d t
  else if (rd_T34 l p).f5 = 0 then tgo l me r (j + 1) (n + 1) d t
  else if (rd_T34 l p).f5 = 2 then tgo l me r (j + 1) n (d + 1) t
  else if 0 < (rd_T34 l p).f4 ∧ 0 < t ∧ (rd_T34 l p).f4 ≠ t then none
  else tgo l me r (j + 1) n d (max t (rd_T34 l p).f4)
def tfin (nodes : Int) : Option (Int × Int × Int) → Int × Int × Int
 | none => (0, 0, 120)
 | some (n, d, t) => if 0 < t ∧ 0 < n then (0, 0, 120) else if 0 < t then (1, t, 0) else if 0 < n then (2, 0, 0) else if d = nodes - 1 then (3, 0, 0) else (0, 0, 0)
def toldL (nodes me txn : Int) (l : List S34) : Int × Int × Int := if wrongL nodes me txn l.length = 0 then tfin nodes (tgo l me (full nodes txn 8 l) 0 0 0 0) else (0, 0, wrongL nodes me txn l.length)
end Go.Proofs.Ytdecpagcaondiaa.TermSpec

/- letter.Check by its contract: 0 just for letters that may be (LetSpec.chkL), else 70. An own text in the printer's form. -/
namespace Go.Proofs.Ytdecpagcaondiaa.Al
open Go.RowKit Go.Proofs.Ytdecpagcaondiaa.Base Go.Proofs.Ytdecpagcaondiaa.LetSpec Go.Proofs.YtdecpagcaondiaaW.PrintWords Go.Proofs.YtdecpagcaondiaaW.PrintLast Go.Proofs.YtdecpagcaondiaaW.PrintMore
set_option linter.unusedVariables false
set_option linter.unusedSimpArgs false
def letter_Check.f (a0_0 : Int) (a0_1 : Int) (a0_2 : Int) (a0_3 : Int) (a0_4 : Int) (a0_5 : Int) (a0_6 : ByteArray) (l0_7 : List ByteArray) (l0_8 : List (S70)) : Option Int := if l0_7.length ≤ 8796093022000 ∧ l0_8.length ≤ 8796093022000 then some (chkL a0_0 a0_1 a0_2 a0_3 a0_4 a0_5 a0_6 l0_7 l0_8) else none
theorem add_zero_ (a : Addr) : a.add 0 = a := by unfold Addr.add; simp
section
variable (a0_0 : Int) (a0_1 : Int) (a0_2 : Int) (a0_3 : Int) (a0_4 : Int) (a0_5 : Int) (a0_6 : ByteArray) (A0_7 : Option Addr) (c0_7 : Nat) (l0_7 : List ByteArray) (A0_8 : Option Addr) (c0_8 : Nat) (l0_8 : List (S70)) (w : World)
set_option maxHeartbeats 8000000 in
set_option maxRecDepth 100000 in
theorem check_bad0  (g0 : ¬ (addrB a0_1 = true)) :
  Calls Try.prog 26 #[.agg #[.int .i64 a0_0, .int .i64 a0_1, .int .i64 a0_2, .int .i64 a0_3, .int .i64 a0_4, .int .i64 a0_5, .string a0_6, .slice A0_7 l0_7.length c0_7, .slice A0_8 l0_8.length c0_8]] w fun e w' => e = .returned (.int .i64 70) ∧ Below w.heap.size w w' := by
 have hu34 := Try.underlying34
 have d0 : addrB a0_1 = false := by simpa using g0
 clear g0
 go_enter Try.func26, Try.ntmps26
 go_wp2_with (first | ((with_reducible refine gate_dst (N := 1) rfl ?_); refine box_event ?hg (N := 1) ?hd (cs := #[.int .i64 a0_0, .int .i64 a0_1, .int .i64 a0_2, .int .i64 a0_3, .int .i64 a0_4, .int .i64 a0_5, .string a0_6, .slice A0_7 l0_7.length c0_7, .slice A0_8 l0_8.length c0_8]) (t := 34) ?hr ?_; (case hd => rfl); (case hg => rfl); (case hr => first | (go_simp; done) | (go_simp; rfl)); intro gl hgl w1 hbox hb; have HB := Aside0.mk hb; have BL := Aside0.mk hbox; clear hgl hb hbox; have hcz_0 : w1.cell? ⟨gl, 0, none⟩ = some (.int .i64 a0_0) := (blk_cell BL.out 0).trans rfl; have hcz_1 : w1.cell? ⟨gl, 1, none⟩ = some (.int .i64 a0_1) := (blk_cell BL.out 1).trans rfl; have hcz_2 : w1.cell? ⟨gl, 2, none⟩ = some (.int .i64 a0_2) := (blk_cell BL.out 2).trans rfl; have hcz_3 : w1.cell? ⟨gl, 3, none⟩ = some (.int .i64 a0_3) := (blk_cell BL.out 3).trans rfl; have hcz_4 : w1.cell? ⟨gl, 4, none⟩ = some (.int .i64 a0_4) := (blk_cell BL.out 4).trans rfl; have hcz_5 : w1.cell? ⟨gl, 5, none⟩ = some (.int .i64 a0_5) := (blk_cell BL.out 5).trans rfl; have hcz_6 : w1.cell? ⟨gl, 6, none⟩ = some (.string a0_6) := (blk_cell BL.out 6).trans rfl; have hcz_7 : w1.cell? ⟨gl, 7, none⟩ = some (.slice A0_7 l0_7.length c0_7) := (blk_cell BL.out 7).trans rfl; have hcz_8 : w1.cell? ⟨gl, 8, none⟩ = some (.slice A0_8 l0_8.length c0_8) := (blk_cell BL.out 8).trans rfl) | (go_at_call 31; refine (address_calls _ _).mono ?_; rintro e w' ⟨rfl, nd, rfl⟩; (try first | exact ⟨rfl, _, World.drewN_drewN _ _ _⟩)))
 go_ret
 exact ⟨rfl, by repeat (first | exact HB.out | refine pw_below_drewN ?_ _)⟩
set_option maxHeartbeats 8000000 in
set_option maxRecDepth 100000 in
theorem check_bad1 (g0 : addrB a0_1 = true) (g1 : ¬ (addrB a0_2 = true)) :
  Calls Try.prog 26 #[.agg #[.int .i64 a0_0, .int .i64 a0_1, .int .i64 a0_2, .int .i64 a0_3, .int .i64 a0_4, .int .i64 a0_5, .string a0_6, .slice A0_7 l0_7.length c0_7, .slice A0_8 l0_8.length c0_8]] w fun e w' => e = .returned (.int .i64 70) ∧ Below w.heap.size w w' := by
 have hu34 := Try.underlying34
 have d0 : addrB a0_1 = true := g0
 have d1 : addrB a0_2 = false := by simpa using g1
 clear g0 g1
 go_enter Try.func26, Try.ntmps26
 go_wp2_with (first | ((with_reducible refine gate_dst (N := 1) rfl ?_); refine box_event ?hg (N := 1) ?hd (cs := #[.int .i64 a0_0, .int .i64 a0_1, .int .i64 a0_2, .int .i64 a0_3, .int .i64 a0_4, .int .i64 a0_5, .string a0_6, .slice A0_7 l0_7.length c0_7, .slice A0_8 l0_8.length c0_8]) (t := 34) ?hr ?_; (case hd => rfl); (case hg => rfl); (case hr => first | (go_simp; done) | (go_simp; rfl)); intro gl hgl w1 hbox hb; have HB := Aside0.mk hb; have BL := Aside0.mk hbox; clear hgl hb hbox; have hcz_0 : w1.cell? ⟨gl, 0, none⟩ = some (.int .i64 a0_0) := (blk_cell BL.out 0).trans rfl; have hcz_1 : w1.cell? ⟨gl, 1, none⟩ = some (.int .i64 a0_1) := (blk_cell BL.out 1).trans rfl; have hcz_2 : w1.cell? ⟨gl, 2, none⟩ = some (.int .i64 a0_2) := (blk_cell BL.out 2).trans rfl; have hcz_3 : w1.cell? ⟨gl, 3, none⟩ = some (.int .i64 a0_3) := (blk_cell BL.out 3).trans rfl; have hcz_4 : w1.cell? ⟨gl, 4, none⟩ = some (.int .i64 a0_4) := (blk_cell BL.out 4).trans rfl; have hcz_5 : w1.cell? ⟨gl, 5, none⟩ = some (.int .i64 a0_5) := (blk_cell BL.out 5).trans rfl; have hcz_6 : w1.cell? ⟨gl, 6, none⟩ = some (.string a0_6) := (blk_cell BL.out 6).trans rfl; have hcz_7 : w1.cell? ⟨gl, 7, none⟩ = some (.slice A0_7 l0_7.length c0_7) := (blk_cell BL.out 7).trans rfl; have hcz_8 : w1.cell? ⟨gl, 8, none⟩ = some (.slice A0_8 l0_8.length c0_8) := (blk_cell BL.out 8).trans rfl) | (go_at_call 31; refine (address_calls _ _).mono ?_; rintro e w' ⟨rfl, nd, rfl⟩; (try first | exact ⟨rfl, _, World.drewN_drewN _ _ _⟩)))
 go_ret
 exact ⟨rfl, by repeat (first | exact HB.out | refine pw_below_drewN ?_ _)⟩
set_option maxHeartbeats 8000000 in
set_option maxRecDepth 100000 in
theorem check_bad2 (g0 : addrB a0_1 = true) (g1 : addrB a0_2 = true) (g2 : ¬ (1 ≤ a0_3)) :
  Calls Try.prog 26 #[.agg #[.int .i64 a0_0, .int .i64 a0_1, .int .i64 a0_2, .int .i64 a0_3, .int .i64 a0_4, .int .i64 a0_5, .string a0_6, .slice A0_7 l0_7.length c0_7, .slice A0_8 l0_8.length c0_8]] w fun e w' => e = .returned (.int .i64 70) ∧ Below w.heap.size w w' := by
 have hu34 := Try.underlying34
 have d0 : addrB a0_1 = true := g0
 have d1 : addrB a0_2 = true := g1
 have d2 : decide (a0_3 < 1) = true := decide_eq_true (by omega)
 clear g0 g1 g2
 go_enter Try.func26, Try.ntmps26
 go_wp2_with (first | ((with_reducible refine gate_dst (N := 1) rfl ?_); refine box_event ?hg (N := 1) ?hd (cs := #[.int .i64 a0_0, .int .i64 a0_1, .int .i64 a0_2, .int .i64 a0_3, .int .i64 a0_4, .int .i64 a0_5, .string a0_6, .slice A0_7 l0_7.length c0_7, .slice A0_8 l0_8.length c0_8]) (t := 34) ?hr ?_; (case hd => rfl); (case hg => rfl); (case hr => first | (go_simp; done) | (go_simp; rfl)); intro gl hgl w1 hbox hb; have HB := Aside0.mk hb; have BL := Aside0.mk hbox; clear hgl hb hbox; have hcz_0 : w1.cell? ⟨gl, 0, none⟩ = some (.int .i64 a0_0) := (blk_cell BL.out 0).trans rfl; have hcz_1 : w1.cell? ⟨gl, 1, none⟩ = some (.int .i64 a0_1) := (blk_cell BL.out 1).trans rfl; have hcz_2 : w1.cell? ⟨gl, 2, none⟩ = some (.int .i64 a0_2) := (blk_cell BL.out 2).trans rfl; have hcz_3 : w1.cell? ⟨gl, 3, none⟩ = some (.int .i64 a0_3) := (blk_cell BL.out 3).trans rfl; have hcz_4 : w1.cell? ⟨gl, 4, none⟩ = some (.int .i64 a0_4) := (blk_cell BL.out 4).trans rfl; have hcz_5 : w1.cell? ⟨gl, 5, none⟩ = some (.int .i64 a0_5) := (blk_cell BL.out 5).trans rfl; have hcz_6 : w1.cell? ⟨gl, 6, none⟩ = some (.string a0_6) := (blk_cell BL.out 6).trans rfl; have hcz_7 : w1.cell? ⟨gl, 7, none⟩ = some (.slice A0_7 l0_7.length c0_7) := (blk_cell BL.out 7).trans rfl; have hcz_8 : w1.cell? ⟨gl, 8, none⟩ = some (.slice A0_8 l0_8.length c0_8) := (blk_cell BL.out 8).trans rfl) | (go_at_call 31; refine (address_calls _ _).mono ?_; rintro e w' ⟨rfl, nd, rfl⟩; (try first | exact ⟨rfl, _, World.drewN_drewN _ _ _⟩)))
 go_ret
 exact ⟨rfl, by repeat (first | exact HB.out | refine pw_below_drewN ?_ _)⟩
set_option maxHeartbeats 8000000 in
set_option maxRecDepth 100000 in
theorem check_bad3 (g0 : addrB a0_1 = true) (g1 : addrB a0_2 = true) (g2 : 1 ≤ a0_3) (g3 : ¬ (a0_3 ≤ 1125899906842623)) :
  Calls Try.prog 26 #[.agg #[.int .i64 a0_0, .int .i64 a0_1, .int .i64 a0_2, .int .i64 a0_3, .int .i64 a0_4, .int .i64 a0_5, .string a0_6, .slice A0_7 l0_7.length c0_7, .slice A0_8 l0_8.length c0_8]] w fun e w' => e = .returned (.int .i64 70) ∧ Below w.heap.size w w' := by
 have hu34 := Try.underlying34
 have d0 : addrB a0_1 = true := g0
 have d1 : addrB a0_2 = true := g1
 have d2 : decide (a0_3 < 1) = false := decide_eq_false (by omega)
 have d3 : decide (1125899906842623 < a0_3) = true := decide_eq_true (by omega)
 clear g0 g1 g2 g3
 go_enter Try.func26, Try.ntmps26
 go_wp2_with (first | ((with_reducible refine gate_dst (N := 1) rfl ?_); refine box_event ?hg (N := 1) ?hd (cs := #[.int .i64 a0_0, .int .i64 a0_1, .int .i64 a0_2, .int .i64 a0_3, .int .i64 a0_4, .int .i64 a0_5, .string a0_6, .slice A0_7 l0_7.length c0_7, .slice A0_8 l0_8.length c0_8]) (t := 34) ?hr ?_; (case hd => rfl); (case hg => rfl); (case hr => first | (go_simp; done) | (go_simp; rfl)); intro gl hgl w1 hbox hb; have HB := Aside0.mk hb; have BL := Aside0.mk hbox; clear hgl hb hbox; have hcz_0 : w1.cell? ⟨gl, 0, none⟩ = some (.int .i64 a0_0) := (blk_cell BL.out 0).trans rfl; have hcz_1 : w1.cell? ⟨gl, 1, none⟩ = some (.int .i64 a0_1) := (blk_cell BL.out 1).trans rfl; have hcz_2 : w1.cell? ⟨gl, 2, none⟩ = some (.int .i64 a0_2) := (blk_cell BL.out 2).trans rfl; have hcz_3 : w1.cell? ⟨gl, 3, none⟩ = some (.int .i64 a0_3) := (blk_cell BL.out 3).trans rfl; have hcz_4 : w1.cell? ⟨gl, 4, none⟩ = some (.int .i64 a0_4) := (blk_cell BL.out 4).trans rfl; have hcz_5 : w1.cell? ⟨gl, 5, none⟩ = some (.int .i64 a0_5) := (blk_cell BL.out 5).trans rfl; have hcz_6 : w1.cell? ⟨gl, 6, none⟩ = some (.string a0_6) := (blk_cell BL.out 6).trans rfl; have hcz_7 : w1.cell? ⟨gl, 7, none⟩ = some (.slice A0_7 l0_7.length c0_7) := (blk_cell BL.out 7).trans rfl; have hcz_8 : w1.cell? ⟨gl, 8, none⟩ = some (.slice A0_8 l0_8.length c0_8) := (blk_cell BL.out 8).trans rfl) | (go_at_call 31; refine (address_calls _ _).mono ?_; rintro e w' ⟨rfl, nd, rfl⟩; (try first | exact ⟨rfl, _, World.drewN_drewN _ _ _⟩)))
 go_ret
 exact ⟨rfl, by repeat (first | exact HB.out | refine pw_below_drewN ?_ _)⟩
set_option maxHeartbeats 8000000 in
set_option maxRecDepth 100000 in
theorem check_bad4 (g0 : addrB a0_1 = true) (g1 : addrB a0_2 = true) (g2 : 1 ≤ a0_3) (g3 : a0_3 ≤ 1125899906842623) (g4 : ¬ (0 ≤ a0_4)) :
  Calls Try.prog 26 #[.agg #[.int .i64 a0_0, .int .i64 a0_1, .int .i64 a0_2, .int .i64 a0_3, .int .i64 a0_4, .int .i64 a0_5, .string a0_6, .slice A0_7 l0_7.length c0_7, .slice A0_8 l0_8.length c0_8]] w fun e w' => e = .returned (.int .i64 70) ∧ Below w.heap.size w w' := by
 have hu34 := Try.underlying34
 have d0 : addrB a0_1 = true := g0
 have d1 : addrB a0_2 = true := g1
 have d2 : decide (a0_3 < 1) = false := decide_eq_false (by omega)
 have d3 : decide (1125899906842623 < a0_3) = false := decide_eq_false (by omega)
 have d4 : decide (a0_4 < 0) = true := decide_eq_true (by omega)
 clear g0 g1 g2 g3 g4
 go_enter Try.func26, Try.ntmps26
 go_wp2_with (first | ((with_reducible refine gate_dst (N := 1) rfl ?_); refine box_event ?hg (N := 1) ?hd (cs := #[.int .i64 a0_0, .int .i64 a0_1, .int .i64 a0_2, .int .i64 a0_3, .int .i64 a0_4, .int .i64 a0_5, .string a0_6, .slice A0_7 l0_7.length c0_7, .slice A0_8 l0_8.length c0_8]) (t := 34) ?hr ?_; (case hd => rfl); (case hg => rfl); (case hr => first | (go_simp; done) | (go_simp; rfl)); intro gl hgl w1 hbox hb; have HB := Aside0.mk hb; have BL := Aside0.mk hbox; clear hgl hb hbox; have hcz_0 : w1.cell? ⟨gl, 0, none⟩ = some (.int .i64 a0_0) := (blk_cell BL.out 0).trans rfl; have hcz_1 : w1.cell? ⟨gl, 1, none⟩ = some (.int .i64 a0_1) := (blk_cell BL.out 1).trans rfl; have hcz_2 : w1.cell? ⟨gl, 2, none⟩ = some (.int .i64 a0_2) := (blk_cell BL.out 2).trans rfl; have hcz_3 : w1.cell? ⟨gl, 3, none⟩ = some (.int .i64 a0_3) := (blk_cell BL.out 3).trans rfl; have hcz_4 : w1.cell? ⟨gl, 4, none⟩ = some (.int .i64 a0_4) := (blk_cell BL.out 4).trans rfl; have hcz_5 : w1.cell? ⟨gl, 5, none⟩ = some (.int .i64 a0_5) := (blk_cell BL.out 5).trans rfl; have hcz_6 : w1.cell? ⟨gl, 6, none⟩ = some (.string a0_6) := (blk_cell BL.out 6).trans rfl; have hcz_7 : w1.cell? ⟨gl, 7, none⟩ = some (.slice A0_7 l0_7.length c0_7) := (blk_cell BL.out 7).trans rfl; have hcz_8 : w1.cell? ⟨gl, 8, none⟩ = some (.slice A0_8 l0_8.length c0_8) := (blk_cell BL.out 8).trans rfl) | (go_at_call 31; refine (address_calls _ _).mono ?_; rintro e w' ⟨rfl, nd, rfl⟩; (try first | exact ⟨rfl, _, World.drewN_drewN _ _ _⟩)))
 go_ret
 exact ⟨rfl, by repeat (first | exact HB.out | refine pw_below_drewN ?_ _)⟩
set_option maxHeartbeats 8000000 in
set_option maxRecDepth 100000 in
theorem check_bad5 (g0 : addrB a0_1 = true) (g1 : addrB a0_2 = true) (g2 : 1 ≤ a0_3) (g3 : a0_3 ≤ 1125899906842623) (g4 : 0 ≤ a0_4) (g5 : ¬ (a0_4 ≤ 1125899906842624)) :
  Calls Try.prog 26 #[.agg #[.int .i64 a0_0, .int .i64 a0_1, .int .i64 a0_2, .int .i64 a0_3, .int .i64 a0_4, .int .i64 a0_5, .string a0_6, .slice A0_7 l0_7.length c0_7, .slice A0_8 l0_8.length c0_8]] w fun e w' => e = .returned (.int .i64 70) ∧ Below w.heap.size w w' := by
 have hu34 := Try.underlying34
 have d0 : addrB a0_1 = true := g0
 have d1 : addrB a0_2 = true := g1
 have d2 : decide (a0_3 < 1) = false := decide_eq_false (by omega)
 have d3 : decide (1125899906842623 < a0_3) = false := decide_eq_false (by omega)
 have d4 : decide (a0_4 < 0) = false := decide_eq_false (by omega)
 have d5 : decide (1125899906842624 < a0_4) = true := decide_eq_true (by omega)
 clear g0 g1 g2 g3 g4 g5
 go_enter Try.func26, Try.ntmps26
 go_wp2_with (first | ((with_reducible refine gate_dst (N := 1) rfl ?_); refine box_event ?hg (N := 1) ?hd (cs := #[.int .i64 a0_0, .int .i64 a0_1, .int .i64 a0_2, .int .i64 a0_3, .int .i64 a0_4, .int .i64 a0_5, .string a0_6, .slice A0_7 l0_7.length c0_7, .slice A0_8 l0_8.length c0_8]) (t := 34) ?hr ?_; (case hd => rfl); (case hg => rfl); (case hr => first | (go_simp; done) | (go_simp; rfl)); intro gl hgl w1 hbox hb; have HB := Aside0.mk hb; have BL := Aside0.mk hbox; clear hgl hb hbox; have hcz_0 : w1.cell? ⟨gl, 0, none⟩ = some (.int .i64 a0_0) := (blk_cell BL.out 0).trans rfl; have hcz_1 : w1.cell? ⟨gl, 1, none⟩ = some (.int .i64 a0_1) := (blk_cell BL.out 1).trans rfl; have hcz_2 : w1.cell? ⟨gl, 2, none⟩ = some (.int .i64 a0_2) := (blk_cell BL.out 2).trans rfl; have hcz_3 : w1.cell? ⟨gl, 3, none⟩ = some (.int .i64 a0_3) := (blk_cell BL.out 3).trans rfl; have hcz_4 : w1.cell? ⟨gl, 4, none⟩ = some (.int .i64 a0_4) := (blk_cell BL.out 4).trans rfl; have hcz_5 : w1.cell? ⟨gl, 5, none⟩ = some (.int .i64 a0_5) := (blk_cell BL.out 5).trans rfl; have hcz_6 : w1.cell? ⟨gl, 6, none⟩ = some (.string a0_6) := (blk_cell BL.out 6).trans rfl; have hcz_7 : w1.cell? ⟨gl, 7, none⟩ = some (.slice A0_7 l0_7.length c0_7) := (blk_cell BL.out 7).trans rfl; have hcz_8 : w1.cell? ⟨gl, 8, none⟩ = some (.slice A0_8 l0_8.length c0_8) := (blk_cell BL.out 8).trans rfl) | (go_at_call 31; refine (address_calls _ _).mono ?_; rintro e w' ⟨rfl, nd, rfl⟩; (try first | exact ⟨rfl, _, World.drewN_drewN _ _ _⟩)))
 go_ret
 exact ⟨rfl, by repeat (first | exact HB.out | refine pw_below_drewN ?_ _)⟩
set_option maxHeartbeats 8000000 in
set_option maxRecDepth 100000 in
theorem check_bad6 (g0 : addrB a0_1 = true) (g1 : addrB a0_2 = true) (g2 : 1 ≤ a0_3) (g3 : a0_3 ≤ 1125899906842623) (g4 : 0 ≤ a0_4) (g5 : a0_4 ≤ 1125899906842624) (g6 : ¬ (0 ≤ a0_5)) :
  Calls Try.prog 26 #[.agg #[.int .i64 a0_0, .int .i64 a0_1, .int .i64 a0_2, .int .i64 a0_3, .int .i64 a0_4, .int .i64 a0_5, .string a0_6, .slice A0_7 l0_7.length c0_7, .slice A0_8 l0_8.length c0_8]] w fun e w' => e = .returned (.int .i64 70) ∧ Below w.heap.size w w' := by
 have hu34 := Try.underlying34
 have d0 : addrB a0_1 = true := g0
 have d1 : addrB a0_2 = true := g1
 have d2 : decide (a0_3 < 1) = false := decide_eq_false (by omega)
 have d3 : decide (1125899906842623 < a0_3) = false := decide_eq_false (by omega)
 have d4 : decide (a0_4 < 0) = false := decide_eq_false (by omega)
 have d5 : decide (1125899906842624 < a0_4) = false := decide_eq_false (by omega)
 have d6 : decide (a0_5 < 0) = true := decide_eq_true (by omega)
 clear g0 g1 g2 g3 g4 g5 g6
 go_enter Try.func26, Try.ntmps26
 go_wp2_with (first | ((with_reducible refine gate_dst (N := 1) rfl ?_); refine box_event ?hg (N := 1) ?hd (cs := #[.int .i64 a0_0, .int .i64 a0_1, .int .i64 a0_2, .int .i64 a0_3, .int .i64 a0_4, .int .i64 a0_5, .string a0_6, .slice A0_7 l0_7.length c0_7, .slice A0_8 l0_8.length c0_8]) (t := 34) ?hr ?_; (case hd => rfl); (case hg => rfl); (case hr => first | (go_simp; done) | (go_simp; rfl)); intro gl hgl w1 hbox hb; have HB := Aside0.mk hb; have BL := Aside0.mk hbox; clear hgl hb hbox; have hcz_0 : w1.cell? ⟨gl, 0, none⟩ = some (.int .i64 a0_0) := (blk_cell BL.out 0).trans rfl; have hcz_1 : w1.cell? ⟨gl, 1, none⟩ = some (.int .i64 a0_1) := (blk_cell BL.out 1).trans rfl; have hcz_2 : w1.cell? ⟨gl, 2, none⟩ = some (.int .i64 a0_2) := (blk_cell BL.out 2).trans rfl; have hcz_3 : w1.cell? ⟨gl, 3, none⟩ = some (.int .i64 a0_3) := (blk_cell BL.out 3).trans rfl; have hcz_4 : w1.cell? ⟨gl, 4, none⟩ = some (.int .i64 a0_4) := (blk_cell BL.out 4).trans rfl; have hcz_5 : w1.cell? ⟨gl, 5, none⟩ = some (.int .i64 a0_5) := (blk_cell BL.out 5).trans rfl; have hcz_6 : w1.cell? ⟨gl, 6, none⟩ = some (.string a0_6) := (blk_cell BL.out 6).trans rfl; have hcz_7 : w1.cell? ⟨gl, 7, none⟩ = some (.slice A0_7 l0_7.length c0_7) := (blk_cell BL.out 7).trans rfl; have hcz_8 : w1.cell? ⟨gl, 8, none⟩ = some (.slice A0_8 l0_8.length c0_8) := (blk_cell BL.out 8).trans rfl) | (go_at_call 31; refine (address_calls _ _).mono ?_; rintro e w' ⟨rfl, nd, rfl⟩; (try first | exact ⟨rfl, _, World.drewN_drewN _ _ _⟩)))
 go_ret
 exact ⟨rfl, by repeat (first | exact HB.out | refine pw_below_drewN ?_ _)⟩
set_option maxHeartbeats 8000000 in
set_option maxRecDepth 100000 in
theorem check_good (hr0_7 : Kd.C Kd.string w A0_7 l0_7.length l0_7) (hc0_7 : l0_7.length ≤ c0_7) (hr0_8 : Kd.C k70 w A0_8 l0_8.length l0_8) (hc0_8 : l0_8.length ≤ c0_8) (hl7 : l0_7.length ≤ 8796093022000) (hl8 : l0_8.length ≤ 8796093022000) (g0 : addrB a0_1 = true) (g1 : addrB a0_2 = true) (g2 : 1 ≤ a0_3) (g3 : a0_3 ≤ 1125899906842623) (g4 : 0 ≤ a0_4) (g5 : a0_4 ≤ 1125899906842624) (g6 : 0 ≤ a0_5) :
  Calls Try.prog 26 #[.agg #[.int .i64 a0_0, .int .i64 a0_1, .int .i64 a0_2, .int .i64 a0_3, .int .i64 a0_4, .int .i64 a0_5, .string a0_6, .slice A0_7 l0_7.length c0_7, .slice A0_8 l0_8.length c0_8]] w fun e w' => e = .returned (.int .i64 (fin4 a0_5 (sw a0_0 a0_5 a0_6 l0_7 l0_8))) ∧ Below w.heap.size w w' := by
 have hu34 := Try.underlying34
 have HR7 := Aside0.mk hr0_7
 have HR8 := Aside0.mk hr0_8
 have d0 : addrB a0_1 = true := g0
 have d1 : addrB a0_2 = true := g1
 have d2 : decide (a0_3 < 1) = false := decide_eq_false (by omega)
 have d3 : decide (1125899906842623 < a0_3) = false := decide_eq_false (by omega)
 have d4 : decide (a0_4 < 0) = false := decide_eq_false (by omega)
 have d5 : decide (1125899906842624 < a0_4) = false := decide_eq_false (by omega)
 have d6 : decide (a0_5 < 0) = false := decide_eq_false (by omega)
 clear hr0_7 hr0_8 g0 g1 g2 g3 g4 g5 g6
 go_enter Try.func26, Try.ntmps26
 go_wp2_with (first | ((with_reducible refine gate_dst (N := 1) rfl ?_); refine box_event ?hg (N := 1) ?hd (cs := #[.int .i64 a0_0, .int .i64 a0_1, .int .i64 a0_2, .int .i64 a0_3, .int .i64 a0_4, .int .i64 a0_5, .string a0_6, .slice A0_7 l0_7.length c0_7, .slice A0_8 l0_8.length c0_8]) (t := 34) ?hr ?_; (case hd => rfl); (case hg => rfl); (case hr => first | (go_simp; done) | (go_simp; rfl)); intro gl hgl w1 hbox hb; have HB := Aside0.mk hb; have BL := Aside0.mk hbox; clear hgl hb hbox; have hcz_0 : w1.cell? ⟨gl, 0, none⟩ = some (.int .i64 a0_0) := (blk_cell BL.out 0).trans rfl; have hcz_1 : w1.cell? ⟨gl, 1, none⟩ = some (.int .i64 a0_1) := (blk_cell BL.out 1).trans rfl; have hcz_2 : w1.cell? ⟨gl, 2, none⟩ = some (.int .i64 a0_2) := (blk_cell BL.out 2).trans rfl; have hcz_3 : w1.cell? ⟨gl, 3, none⟩ = some (.int .i64 a0_3) := (blk_cell BL.out 3).trans rfl; have hcz_4 : w1.cell? ⟨gl, 4, none⟩ = some (.int .i64 a0_4) := (blk_cell BL.out 4).trans rfl; have hcz_5 : w1.cell? ⟨gl, 5, none⟩ = some (.int .i64 a0_5) := (blk_cell BL.out 5).trans rfl; have hcz_6 : w1.cell? ⟨gl, 6, none⟩ = some (.string a0_6) := (blk_cell BL.out 6).trans rfl; have hcz_7 : w1.cell? ⟨gl, 7, none⟩ = some (.slice A0_7 l0_7.length c0_7) := (blk_cell BL.out 7).trans rfl; have hcz_8 : w1.cell? ⟨gl, 8, none⟩ = some (.slice A0_8 l0_8.length c0_8) := (blk_cell BL.out 8).trans rfl) | (go_at_call 31; refine (address_calls _ _).mono ?_; rintro e w' ⟨rfl, nd, rfl⟩; (try first | exact ⟨rfl, _, World.drewN_drewN _ _ _⟩)))
 go_quiet (fail)
 generalize eW : World.drewN w1 _ = W
 have HBq : Aside0 (Below w.heap.size w W) := ⟨by rw [← eW]; exact pw_below_drewN HB.out _⟩
 have BLq : Aside0 (W.heap[gl]? = some (.cells #[.int .i64 a0_0, .int .i64 a0_1, .int .i64 a0_2, .int .i64 a0_3, .int .i64 a0_4, .int .i64 a0_5, .string a0_6, .slice A0_7 l0_7.length c0_7, .slice A0_8 l0_8.length c0_8] 34 (0, 0))) := ⟨by rw [← eW]; exact blk_drewN BL.out _⟩
 clear eW HB BL hcz_0 hcz_1 hcz_2 hcz_3 hcz_4 hcz_5 hcz_6 hcz_7 hcz_8
 have hcz_0 : W.cell? ⟨gl, 0, none⟩ = some (.int .i64 a0_0) := (blk_cell BLq.out 0).trans rfl
 have hcz_1 : W.cell? ⟨gl, 1, none⟩ = some (.int .i64 a0_1) := (blk_cell BLq.out 1).trans rfl
 have hcz_2 : W.cell? ⟨gl, 2, none⟩ = some (.int .i64 a0_2) := (blk_cell BLq.out 2).trans rfl
 have hcz_3 : W.cell? ⟨gl, 3, none⟩ = some (.int .i64 a0_3) := (blk_cell BLq.out 3).trans rfl
 have hcz_4 : W.cell? ⟨gl, 4, none⟩ = some (.int .i64 a0_4) := (blk_cell BLq.out 4).trans rfl
 have hcz_5 : W.cell? ⟨gl, 5, none⟩ = some (.int .i64 a0_5) := (blk_cell BLq.out 5).trans rfl
 have hcz_6 : W.cell? ⟨gl, 6, none⟩ = some (.string a0_6) := (blk_cell BLq.out 6).trans rfl
 have hcz_7 : W.cell? ⟨gl, 7, none⟩ = some (.slice A0_7 l0_7.length c0_7) := (blk_cell BLq.out 7).trans rfl
 have hcz_8 : W.cell? ⟨gl, 8, none⟩ = some (.slice A0_8 l0_8.length c0_8) := (blk_cell BLq.out 8).trans rfl
 go_upto_block 0 with (fail)
 go_cut [3, 4, 5, 6] (fun v3 v4 v5 v6 wc => ∃ (m : Int) (kB wB tB : Bool), v3 = .int .i64 m ∧ v4 = .bool kB ∧ v5 = .bool wB ∧ v6 = .bool tB ∧ Aside0 (sw a0_0 a0_5 a0_6 l0_7 l0_8 = some (m, kB, wB, tB)) ∧ Aside0 (Below w.heap.size w wc) ∧ Aside0 (wc.heap[gl]? = some (.cells #[.int .i64 a0_0, .int .i64 a0_1, .int .i64 a0_2, .int .i64 a0_3, .int .i64 a0_4, .int .i64 a0_5, .string a0_6, .slice A0_7 l0_7.length c0_7, .slice A0_8 l0_8.length c0_8] 34 (0, 0))))
 case first =>
  by_cases q2 : a0_0 = 2
  ·subst q2
   by_cases hsz : a0_6.size ≤ 2052
   ·have s1 : decide ((a0_6.size : Int) ≤ 2052) = true := decide_eq_true (by omega)
    have s2 : decide (a0_6.size ≤ 2052) = true := decide_eq_true hsz
    have HS := Aside0.mk s2
    clear hsz
    by_cases he : a0_6.toList.isEmpty = true
    ·have HE := Aside0.mk he
     by_cases hk1 : l0_7.length = 1
     ·obtain ⟨ad, rfl, hx0⟩ := Kd.at_string (Kd.C_below HR7.out HBq.out) 0 (by omega) (by omega)
      have hx : W.cell? (ad.add 0) = some (.string (rdOf ByteArray.empty l0_7 0)) := hx0
      have hx1 : W.cell? ad = some (.string (rdOf ByteArray.empty l0_7 0)) := by rw [add_zero_] at hx; exact hx
      have k1 : ((l0_7.length : Int) == 1) = true := by simp; omega
      have k2 : (l0_7.length == 1) = true := by simp; omega
      have k3 : decide (0 < l0_7.length) = true := decide_eq_true (by omega)
      have k4 : decide ((0 : Int) < (l0_7.length : Int)) = true := decide_eq_true (by omega)
      have k5 : 0 < l0_7.length := by omega
      have HK1 := Aside0.mk hk1
      clear hk1 hx0
      go_wp2_with ((go_at_call 32; refine (key_calls _ _).mono ?_; rintro e w' ⟨rfl, nd, rfl⟩))
      go_meet
      case rel => exact ⟨4, (keyB (rdOf ByteArray.empty l0_7 0)), ((l0_8.length : Int) == 0), true, rfl, rfl, rfl, rfl, ⟨by simp [sw, HK1.out, HS.out, HE.out]⟩, ⟨by repeat (first | exact HBq.out | refine pw_below_drewN ?_ _)⟩, ⟨by (with_reducible repeat (first | refine blk_drewN ?_ _ | refine blk_drew ?_)); exact BLq.out⟩⟩
     ·have k1 : ((l0_7.length : Int) == 1) = false := by simp; omega
      have k2 : (l0_7.length == 1) = false := by simp; omega
      have HK1 := Aside0.mk hk1
      clear hk1
      go_wp2
      go_meet
      case rel => exact ⟨4, false, ((l0_8.length : Int) == 0), true, rfl, rfl, rfl, rfl, ⟨by simp [sw, HK1.out, HS.out, HE.out]⟩, ⟨by repeat (first | exact HBq.out | refine pw_below_drewN ?_ _)⟩, ⟨by (with_reducible repeat (first | refine blk_drewN ?_ _ | refine blk_drew ?_)); exact BLq.out⟩⟩
    ·have he2 : a0_6.toList.isEmpty = false := by simpa using he
     have HE := Aside0.mk he2
     clear he
     by_cases hc1 : a0_5 = 1
     ·have e1 : (a0_5 == 1) = true := by simpa using hc1
      have HC1 := Aside0.mk e1
      clear hc1
      by_cases hk1 : l0_7.length = 1
      ·obtain ⟨ad, rfl, hx0⟩ := Kd.at_string (Kd.C_below HR7.out HBq.out) 0 (by omega) (by omega)
       have hx : W.cell? (ad.add 0) = some (.string (rdOf ByteArray.empty l0_7 0)) := hx0
       have hx1 : W.cell? ad = some (.string (rdOf ByteArray.empty l0_7 0)) := by rw [add_zero_] at hx; exact hx
       have k1 : ((l0_7.length : Int) == 1) = true := by simp; omega
       have k2 : (l0_7.length == 1) = true := by simp; omega
       have k3 : decide (0 < l0_7.length) = true := decide_eq_true (by omega)
       have k4 : decide ((0 : Int) < (l0_7.length : Int)) = true := decide_eq_true (by omega)
       have k5 : 0 < l0_7.length := by omega
       have HK1 := Aside0.mk hk1
       clear hk1 hx0
       go_wp2_with ((go_at_call 32; refine (key_calls _ _).mono ?_; rintro e w' ⟨rfl, nd, rfl⟩))
       go_meet
       case rel => exact ⟨4, (keyB (rdOf ByteArray.empty l0_7 0)), ((l0_8.length : Int) == 0), true, rfl, rfl, rfl, rfl, ⟨by simp [sw, HK1.out, HS.out, HE.out, HC1.out]⟩, ⟨by repeat (first | exact HBq.out | refine pw_below_drewN ?_ _)⟩, ⟨by (with_reducible repeat (first | refine blk_drewN ?_ _ | refine blk_drew ?_)); exact BLq.out⟩⟩
      ·have k1 : ((l0_7.length : Int) == 1) = false := by simp; omega
       have k2 : (l0_7.length == 1) = false := by simp; omega
       have HK1 := Aside0.mk hk1
       clear hk1
       go_wp2
       go_meet
       case rel => exact ⟨4, false, ((l0_8.length : Int) == 0), true, rfl, rfl, rfl, rfl, ⟨by simp [sw, HK1.out, HS.out, HE.out, HC1.out]⟩, ⟨by repeat (first | exact HBq.out | refine pw_below_drewN ?_ _)⟩, ⟨by (with_reducible repeat (first | refine blk_drewN ?_ _ | refine blk_drew ?_)); exact BLq.out⟩⟩
     ·have e1 : (a0_5 == 1) = false := by simpa using hc1
      have HC1 := Aside0.mk e1
      clear hc1
      by_cases hk1 : l0_7.length = 1
      ·obtain ⟨ad, rfl, hx0⟩ := Kd.at_string (Kd.C_below HR7.out HBq.out) 0 (by omega) (by omega)
       have hx : W.cell? (ad.add 0) = some (.string (rdOf ByteArray.empty l0_7 0)) := hx0
       have hx1 : W.cell? ad = some (.string (rdOf ByteArray.empty l0_7 0)) := by rw [add_zero_] at hx; exact hx
       have k1 : ((l0_7.length : Int) == 1) = true := by simp; omega
       have k2 : (l0_7.length == 1) = true := by simp; omega
       have k3 : decide (0 < l0_7.length) = true := decide_eq_true (by omega)
       have k4 : decide ((0 : Int) < (l0_7.length : Int)) = true := decide_eq_true (by omega)
       have k5 : 0 < l0_7.length := by omega
       have HK1 := Aside0.mk hk1
       clear hk1 hx0
       go_wp2_with ((go_at_call 32; refine (key_calls _ _).mono ?_; rintro e w' ⟨rfl, nd, rfl⟩))
       go_meet
       case rel => exact ⟨4, (keyB (rdOf ByteArray.empty l0_7 0)), ((l0_8.length : Int) == 0), false, rfl, rfl, rfl, rfl, ⟨by simp [sw, HK1.out, HS.out, HE.out, HC1.out]⟩, ⟨by repeat (first | exact HBq.out | refine pw_below_drewN ?_ _)⟩, ⟨by (with_reducible repeat (first | refine blk_drewN ?_ _ | refine blk_drew ?_)); exact BLq.out⟩⟩
      ·have k1 : ((l0_7.length : Int) == 1) = false := by simp; omega
       have k2 : (l0_7.length == 1) = false := by simp; omega
       have HK1 := Aside0.mk hk1
       clear hk1
       go_wp2
       go_meet
       case rel => exact ⟨4, false, ((l0_8.length : Int) == 0), false, rfl, rfl, rfl, rfl, ⟨by simp [sw, HK1.out, HS.out, HE.out, HC1.out]⟩, ⟨by repeat (first | exact HBq.out | refine pw_below_drewN ?_ _)⟩, ⟨by (with_reducible repeat (first | refine blk_drewN ?_ _ | refine blk_drew ?_)); exact BLq.out⟩⟩
   ·have s1 : decide ((a0_6.size : Int) ≤ 2052) = false := decide_eq_false (by omega)
    have s2 : decide (a0_6.size ≤ 2052) = false := decide_eq_false hsz
    have HS := Aside0.mk s2
    clear hsz
    by_cases hk1 : l0_7.length = 1
    ·obtain ⟨ad, rfl, hx0⟩ := Kd.at_string (Kd.C_below HR7.out HBq.out) 0 (by omega) (by omega)
     have hx : W.cell? (ad.add 0) = some (.string (rdOf ByteArray.empty l0_7 0)) := hx0
     have hx1 : W.cell? ad = some (.string (rdOf ByteArray.empty l0_7 0)) := by rw [add_zero_] at hx; exact hx
     have k1 : ((l0_7.length : Int) == 1) = true := by simp; omega
     have k2 : (l0_7.length == 1) = true := by simp; omega
     have k3 : decide (0 < l0_7.length) = true := decide_eq_true (by omega)
     have k4 : decide ((0 : Int) < (l0_7.length : Int)) = true := decide_eq_true (by omega)
     have k5 : 0 < l0_7.length := by omega
     have HK1 := Aside0.mk hk1
     clear hk1 hx0
     go_wp2_with ((go_at_call 32; refine (key_calls _ _).mono ?_; rintro e w' ⟨rfl, nd, rfl⟩))
     go_meet
     case rel => exact ⟨4, (keyB (rdOf ByteArray.empty l0_7 0)), ((l0_8.length : Int) == 0), false, rfl, rfl, rfl, rfl, ⟨by simp [sw, HK1.out, HS.out]⟩, ⟨by repeat (first | exact HBq.out | refine pw_below_drewN ?_ _)⟩, ⟨by (with_reducible repeat (first | refine blk_drewN ?_ _ | refine blk_drew ?_)); exact BLq.out⟩⟩
    ·have k1 : ((l0_7.length : Int) == 1) = false := by simp; omega
     have k2 : (l0_7.length == 1) = false := by simp; omega
     have HK1 := Aside0.mk hk1
     clear hk1
     go_wp2
     go_meet
     case rel => exact ⟨4, false, ((l0_8.length : Int) == 0), false, rfl, rfl, rfl, rfl, ⟨by simp [sw, HK1.out, HS.out]⟩, ⟨by repeat (first | exact HBq.out | refine pw_below_drewN ?_ _)⟩, ⟨by (with_reducible repeat (first | refine blk_drewN ?_ _ | refine blk_drew ?_)); exact BLq.out⟩⟩
  ·by_cases q1 : a0_0 = 1
   ·subst q1
    clear q2
    by_cases hk1 : l0_7.length = 1
    ·obtain ⟨ad, rfl, hx0⟩ := Kd.at_string (Kd.C_below HR7.out HBq.out) 0 (by omega) (by omega)
     have hx : W.cell? (ad.add 0) = some (.string (rdOf ByteArray.empty l0_7 0)) := hx0
     have hx1 : W.cell? ad = some (.string (rdOf ByteArray.empty l0_7 0)) := by rw [add_zero_] at hx; exact hx
     have k1 : ((l0_7.length : Int) == 1) = true := by simp; omega
     have k2 : (l0_7.length == 1) = true := by simp; omega
     have k3 : decide (0 < l0_7.length) = true := decide_eq_true (by omega)
     have k4 : decide ((0 : Int) < (l0_7.length : Int)) = true := decide_eq_true (by omega)
     have k5 : 0 < l0_7.length := by omega
     have HK1 := Aside0.mk hk1
     clear hk1 hx0
     go_wp2_with ((go_at_call 32; refine (key_calls _ _).mono ?_; rintro e w' ⟨rfl, nd, rfl⟩))
     go_meet
     case rel => exact ⟨0, (keyB (rdOf ByteArray.empty l0_7 0)), ((l0_8.length : Int) == 0), a0_6.toList.isEmpty, rfl, rfl, rfl, rfl, ⟨by simp [sw, HK1.out]⟩, ⟨by repeat (first | exact HBq.out | refine pw_below_drewN ?_ _)⟩, ⟨by (with_reducible repeat (first | refine blk_drewN ?_ _ | refine blk_drew ?_)); exact BLq.out⟩⟩
    ·have k1 : ((l0_7.length : Int) == 1) = false := by simp; omega
     have k2 : (l0_7.length == 1) = false := by simp; omega
     have HK1 := Aside0.mk hk1
     clear hk1
     go_wp2
     go_meet
     case rel => exact ⟨0, false, ((l0_8.length : Int) == 0), a0_6.toList.isEmpty, rfl, rfl, rfl, rfl, ⟨by simp [sw, HK1.out]⟩, ⟨by repeat (first | exact HBq.out | refine pw_below_drewN ?_ _)⟩, ⟨by (with_reducible repeat (first | refine blk_drewN ?_ _ | refine blk_drew ?_)); exact BLq.out⟩⟩
   ·by_cases q3 : a0_0 = 3
    ·subst q3
     clear q2 q1
     by_cases h16 : l0_7.length ≤ 16
     ·have k1 : decide ((l0_7.length : Int) ≤ 16) = true := decide_eq_true (by omega)
      have k2 : decide (l0_7.length ≤ 16) = true := decide_eq_true h16
      have HK := Aside0.mk k2
      clear h16
      go_wp2_with (first | (go_at_call 33; refine (rising_calls _ A0_7 c0_7 l0_7 (Kd.C_below HR7.out (show Below w.heap.size w _ from by repeat (first | exact HBq.out | refine pw_below_drewN ?_ _))) hc0_7 hl7).mono ?_; rintro e w' ⟨rfl, nd, rfl⟩) | (go_at_call 34; refine (writes_calls _ A0_8 c0_8 l0_8 (Kd.C_below HR8.out (show Below w.heap.size w _ from by repeat (first | exact HBq.out | refine pw_below_drewN ?_ _))) hc0_8 hl8).mono ?_; rintro e w9 ⟨rfl, hb⟩; have HB9 := Aside0.mk (below_step (show Below w.heap.size w _ from by repeat (first | exact HBq.out | refine pw_below_drewN ?_ _)) hb); have BL9 := Aside0.mk (blk_below (show _ = some (Obj.cells #[.int .i64 3, .int .i64 a0_1, .int .i64 a0_2, .int .i64 a0_3, .int .i64 a0_4, .int .i64 a0_5, .string a0_6, .slice A0_7 l0_7.length c0_7, .slice A0_8 l0_8.length c0_8] 34 (0, 0)) from by (with_reducible repeat (first | refine blk_drewN ?_ _ | refine blk_drew ?_)); exact BLq.out) hb); clear hb))
      go_meet
      case rel => exact ⟨0, risB l0_7, wriB l0_8, a0_6.toList.isEmpty, rfl, rfl, rfl, rfl, ⟨by simp [sw, HK.out]⟩, ⟨HB9.out⟩, ⟨BL9.out⟩⟩
     ·have k1 : decide ((l0_7.length : Int) ≤ 16) = false := decide_eq_false (by omega)
      have k2 : decide (l0_7.length ≤ 16) = false := decide_eq_false h16
      have HK := Aside0.mk k2
      clear h16
      go_wp2_with ((go_at_call 34; refine (writes_calls _ A0_8 c0_8 l0_8 (Kd.C_below HR8.out (show Below w.heap.size w _ from by repeat (first | exact HBq.out | refine pw_below_drewN ?_ _))) hc0_8 hl8).mono ?_; rintro e w9 ⟨rfl, hb⟩; have HB9 := Aside0.mk (below_step (show Below w.heap.size w _ from by repeat (first | exact HBq.out | refine pw_below_drewN ?_ _)) hb); have BL9 := Aside0.mk (blk_below (show _ = some (Obj.cells #[.int .i64 3, .int .i64 a0_1, .int .i64 a0_2, .int .i64 a0_3, .int .i64 a0_4, .int .i64 a0_5, .string a0_6, .slice A0_7 l0_7.length c0_7, .slice A0_8 l0_8.length c0_8] 34 (0, 0)) from by (with_reducible repeat (first | refine blk_drewN ?_ _ | refine blk_drew ?_)); exact BLq.out) hb); clear hb))
      go_meet
      case rel => exact ⟨0, false, wriB l0_8, a0_6.toList.isEmpty, rfl, rfl, rfl, rfl, ⟨by simp [sw, HK.out]⟩, ⟨HB9.out⟩, ⟨BL9.out⟩⟩
    ·by_cases q8 : a0_0 = 8
     ·subst q8
      clear q2 q1 q3
      go_wp2
      go_meet
      case rel => exact ⟨2, ((l0_7.length : Int) == 0), ((l0_8.length : Int) == 0), a0_6.toList.isEmpty, rfl, rfl, rfl, rfl, ⟨by simp [sw]⟩, ⟨by repeat (first | exact HBq.out | refine pw_below_drewN ?_ _)⟩, ⟨by (with_reducible repeat (first | refine blk_drewN ?_ _ | refine blk_drew ?_)); exact BLq.out⟩⟩
     ·by_cases q4 : a0_0 = 4
      ·subst q4
       clear q2 q1 q3 q8
       go_wp2
       go_meet
       case rel => exact ⟨1, ((l0_7.length : Int) == 0), ((l0_8.length : Int) == 0), a0_6.toList.isEmpty, rfl, rfl, rfl, rfl, ⟨by simp [sw]⟩, ⟨by repeat (first | exact HBq.out | refine pw_below_drewN ?_ _)⟩, ⟨by (with_reducible repeat (first | refine blk_drewN ?_ _ | refine blk_drew ?_)); exact BLq.out⟩⟩
      ·by_cases q5 : a0_0 = 5
       ·subst q5
        clear q2 q1 q3 q8 q4
        go_wp2
        go_meet
        case rel => exact ⟨0, ((l0_7.length : Int) == 0), ((l0_8.length : Int) == 0), a0_6.toList.isEmpty, rfl, rfl, rfl, rfl, ⟨by simp [sw]⟩, ⟨by repeat (first | exact HBq.out | refine pw_below_drewN ?_ _)⟩, ⟨by (with_reducible repeat (first | refine blk_drewN ?_ _ | refine blk_drew ?_)); exact BLq.out⟩⟩
       ·by_cases q6 : a0_0 = 6
        ·subst q6
         clear q2 q1 q3 q8 q4 q5
         go_wp2
         go_meet
         case rel => exact ⟨0, ((l0_7.length : Int) == 0), ((l0_8.length : Int) == 0), a0_6.toList.isEmpty, rfl, rfl, rfl, rfl, ⟨by simp [sw]⟩, ⟨by repeat (first | exact HBq.out | refine pw_below_drewN ?_ _)⟩, ⟨by (with_reducible repeat (first | refine blk_drewN ?_ _ | refine blk_drew ?_)); exact BLq.out⟩⟩
        ·by_cases q7 : a0_0 = 7
         ·subst q7
          clear q2 q1 q3 q8 q4 q5 q6
          go_wp2
          go_meet
          case rel => exact ⟨0, ((l0_7.length : Int) == 0), ((l0_8.length : Int) == 0), a0_6.toList.isEmpty, rfl, rfl, rfl, rfl, ⟨by simp [sw]⟩, ⟨by repeat (first | exact HBq.out | refine pw_below_drewN ?_ _)⟩, ⟨by (with_reducible repeat (first | refine blk_drewN ?_ _ | refine blk_drew ?_)); exact BLq.out⟩⟩
         ·have hsw : sw a0_0 a0_5 a0_6 l0_7 l0_8 = none := by unfold sw; rw [if_neg q2, if_neg q1, if_neg q3, if_neg q8, if_neg q4, if_neg (by omega)]
          have e2 : (a0_0 == 2) = false := by simpa using q2
          have e1 : (a0_0 == 1) = false := by simpa using q1
          have e3 : (a0_0 == 3) = false := by simpa using q3
          have e8 : (a0_0 == 8) = false := by simpa using q8
          have e4 : (a0_0 == 4) = false := by simpa using q4
          have e5 : (a0_0 == 5) = false := by simpa using q5
          have e6 : (a0_0 == 6) = false := by simpa using q6
          have e7 : (a0_0 == 7) = false := by simpa using q7
          have HSW := Aside0.mk hsw
          clear hsw q2 q1 q3 q8 q4 q5 q6 q7
          go_wp2
          go_ret
          exact ⟨by rw [HSW.out]; rfl, by repeat (first | exact HBq.out | refine pw_below_drewN ?_ _)⟩
 case rest =>
  obtain ⟨m, kB, wB, tB, rfl, rfl, rfl, rfl, HS, HB, BL⟩ := hcut
  have hv := HS.out
  by_cases h1 : a0_5 ≤ m
  ·have c1 : decide (m < a0_5) = false := decide_eq_false (by omega)
   cases kB with
   | false =>
    have HV := Aside0.mk (show fin4 a0_5 (sw a0_0 a0_5 a0_6 l0_7 l0_8) = 70 from by rw [hv]; simp [fin4])
    clear h1 hv HS
    have hcz_5 : wc.cell? ⟨gl, 5, none⟩ = some (.int .i64 a0_5) := (blk_cell BL.out 5).trans rfl
    go_wp2
    go_ret
    exact ⟨by rw [HV.out]; rfl, HB.out⟩
   | true =>
    cases wB with
    | false =>
     have HV := Aside0.mk (show fin4 a0_5 (sw a0_0 a0_5 a0_6 l0_7 l0_8) = 70 from by rw [hv]; simp [fin4])
     clear h1 hv HS
     have hcz_5 : wc.cell? ⟨gl, 5, none⟩ = some (.int .i64 a0_5) := (blk_cell BL.out 5).trans rfl
     go_wp2
     go_ret
     exact ⟨by rw [HV.out]; rfl, HB.out⟩
    | true =>
     cases tB with
     | false =>
      have HV := Aside0.mk (show fin4 a0_5 (sw a0_0 a0_5 a0_6 l0_7 l0_8) = 70 from by rw [hv]; simp [fin4])
      clear h1 hv HS
      have hcz_5 : wc.cell? ⟨gl, 5, none⟩ = some (.int .i64 a0_5) := (blk_cell BL.out 5).trans rfl
      go_wp2
      go_ret
      exact ⟨by rw [HV.out]; rfl, HB.out⟩
     | true =>
      have HV := Aside0.mk (show fin4 a0_5 (sw a0_0 a0_5 a0_6 l0_7 l0_8) = 0 from by rw [hv]; simp [fin4, h1])
      clear h1 hv HS
      have hcz_5 : wc.cell? ⟨gl, 5, none⟩ = some (.int .i64 a0_5) := (blk_cell BL.out 5).trans rfl
      go_wp2
      go_ret
      exact ⟨by rw [HV.out]; rfl, HB.out⟩
  ·have c1 : decide (m < a0_5) = true := decide_eq_true (by omega)
   have HV := Aside0.mk (show fin4 a0_5 (sw a0_0 a0_5 a0_6 l0_7 l0_8) = 70 from by rw [hv]; simp [fin4]; omega)
   clear h1 hv HS
   have hcz_5 : wc.cell? ⟨gl, 5, none⟩ = some (.int .i64 a0_5) := (blk_cell BL.out 5).trans rfl
   go_wp2
   go_ret
   exact ⟨by rw [HV.out]; rfl, HB.out⟩
end
theorem letter_Check.calls (a0_0 : Int) (a0_1 : Int) (a0_2 : Int) (a0_3 : Int) (a0_4 : Int) (a0_5 : Int) (a0_6 : ByteArray) (A0_7 : Option Addr) (c0_7 : Nat) (l0_7 : List ByteArray) (A0_8 : Option Addr) (c0_8 : Nat) (l0_8 : List (S70)) (r : Int) (w : World) (hr0_7 : Kd.C Kd.string w A0_7 l0_7.length l0_7) (hc0_7 : l0_7.length ≤ c0_7) (hr0_8 : Kd.C k70 w A0_8 l0_8.length l0_8) (hc0_8 : l0_8.length ≤ c0_8) (h : letter_Check.f a0_0 a0_1 a0_2 a0_3 a0_4 a0_5 a0_6 l0_7 l0_8 = some r) :
  Calls Try.prog 26 #[.agg #[.int .i64 a0_0, .int .i64 a0_1, .int .i64 a0_2, .int .i64 a0_3, .int .i64 a0_4, .int .i64 a0_5, .string a0_6, .slice A0_7 l0_7.length c0_7, .slice A0_8 l0_8.length c0_8]] w fun e w' => e = .returned (.int .i64 r) ∧ Below w.heap.size w w' := by
 unfold letter_Check.f at h
 split at h
 case isFalse => cases h
 rename_i hl
 obtain rfl := Option.some.inj h
 obtain ⟨hl7, hl8⟩ := hl
 unfold chkL
 by_cases g0 : addrB a0_1 = true
 case neg => rw [if_neg (fun hc => g0 hc.1)]; exact check_bad0 _ _ _ _ _ _ _ _ _ _ _ _ _ _ g0
 by_cases g1 : addrB a0_2 = true
 case neg => rw [if_neg (fun hc => g1 hc.2.1)]; exact check_bad1 _ _ _ _ _ _ _ _ _ _ _ _ _ _ g0 g1
 by_cases g2 : 1 ≤ a0_3
 case neg => rw [if_neg (fun hc => g2 hc.2.2.1)]; exact check_bad2 _ _ _ _ _ _ _ _ _ _ _ _ _ _ g0 g1 g2
 by_cases g3 : a0_3 ≤ 1125899906842623
 case neg => rw [if_neg (fun hc => g3 hc.2.2.2.1)]; exact check_bad3 _ _ _ _ _ _ _ _ _ _ _ _ _ _ g0 g1 g2 g3
 by_cases g4 : 0 ≤ a0_4
 case neg => rw [if_neg (fun hc => g4 hc.2.2.2.2.1)]; exact check_bad4 _ _ _ _ _ _ _ _ _ _ _ _ _ _ g0 g1 g2 g3 g4
 by_cases g5 : a0_4 ≤ 1125899906842624
 case neg => rw [if_neg (fun hc => g5 hc.2.2.2.2.2.1)]; exact check_bad5 _ _ _ _ _ _ _ _ _ _ _ _ _ _ g0 g1 g2 g3 g4 g5
 by_cases g6 : 0 ≤ a0_5
 case neg => rw [if_neg (fun hc => g6 hc.2.2.2.2.2.2)]; exact check_bad6 _ _ _ _ _ _ _ _ _ _ _ _ _ _ g0 g1 g2 g3 g4 g5 g6
 rw [if_pos ⟨g0, g1, g2, g3, g4, g5, g6⟩]
 exact check_good _ _ _ _ _ _ _ _ _ _ _ _ _ _ hr0_7 hc0_7 hr0_8 hc0_8 hl7 hl8 g0 g1 g2 g3 g4 g5 g6
end Go.Proofs.Ytdecpagcaondiaa.Al

/- One function of the program comes to what its plain twin says. This text began as the kit's own print (print.py, made by cprint.sh) and was turned by split.py: it is no printed file. -/
namespace Go.Proofs.Ytdecpagcaondiaa.Al
open Go.RowKit Go.Proofs.YtdecpagcaondiaaW.PrintWords Go.Proofs.YtdecpagcaondiaaW.PrintLast Go.Proofs.YtdecpagcaondiaaW.PrintMore
attribute [local go_sem] max2_int min2_int max_two min_two max_three min_three max_four min_four   -- for this text's walks alone
set_option linter.unusedVariables false
set_option linter.unusedSimpArgs false

/-! ### term_wrong: function 20 -/
def term_wrong.j0 : Nat → List (S34) → Bool → Option (Int)
 | 0, _, _ => none
 | k + 1, x3, x9 => if x9 = true then (some 1) else (if (x3.length : Int) > 1024 then (some 2) else (some 0))
def term_wrong.f (k : Nat) (a0 : Int) (a1 : Int) (a2 : Int) (l3 : List (S34)) : Option (Int) := if a0 < 1 then (term_wrong.j0 k l3 true) else (if a0 > 12 then (term_wrong.j0 k l3 true) else (if a1 < 0 then (term_wrong.j0 k l3 true) else (if a1 ≥ a0 then (term_wrong.j0 k l3 true) else (if a2 < 1 then (term_wrong.j0 k l3 true) else (term_wrong.j0 k l3 (decide (a2 > 1125899906842623)))))))
theorem term_wrong.mono_l : ∀ k, (∀ y0 y1, LeO (term_wrong.j0 k y0 y1) (term_wrong.j0 (k + 1) y0 y1))
 | 0 => fun _ _ r h => by simp [term_wrong.j0] at h
 | k + 1 => by
  have ih0 := term_wrong.mono_l k
  ·intro y0 y1
   unfold term_wrong.j0
   repeat' first
   | (with_reducible exact ih0 _ _)
   | (with_reducible exact LeO.refl _)
   | (with_reducible exact LeO.none _)
   | (with_reducible refine LeO.ite ?_ ?_)
   | (with_reducible refine LeO.bind ?_ (fun _ => ?_))
   | exact ih0 _ _
   | exact LeO.none _
   | refine LeO.ite ?_ ?_
   | refine LeO.bind ?_ (fun _ => ?_)
theorem term_wrong.mono : ∀ a0 a1 a2 a3 k, LeO (term_wrong.f k a0 a1 a2 a3) (term_wrong.f (k + 1) a0 a1 a2 a3) := by
 intro a0 a1 a2 a3 k
 have ih0 := term_wrong.mono_l k
 unfold term_wrong.f
 repeat' first
   | (with_reducible exact ih0 _ _)
   | (with_reducible exact LeO.refl _)
   | (with_reducible exact LeO.none _)
   | (with_reducible refine LeO.ite ?_ ?_)
   | (with_reducible refine LeO.bind ?_ (fun _ => ?_))
   | exact ih0 _ _
   | exact LeO.none _
   | refine LeO.ite ?_ ?_
   | refine LeO.bind ?_ (fun _ => ?_)
set_option maxHeartbeats 8000000 in
set_option maxRecDepth 100000 in
theorem term_wrong.calls (k : Nat) (a0 : Int) (a1 : Int) (a2 : Int) (A3 : Option Addr) (c3 : Nat) (l3 : List (S34)) (r : Int) (w : World) (hr3 : Kd.C k34 w A3 l3.length l3) (hc3 : l3.length ≤ c3) (h : term_wrong.f k a0 a1 a2 l3 = some r) :
  Calls Try.prog 20 #[.int .i64 a0, .int .i64 a1, .int .i64 a2, .slice A3 l3.length c3] w fun e w' => e = .returned (.int .i64 r) ∧ Drawn0 w w' := by
 have HR3 := Aside0.mk hr3
 have HC3 := Aside0.mk hc3
 clear hr3 hc3
 have H : (if a0 < 1 then (term_wrong.j0 k l3 true) else (if a0 > 12 then (term_wrong.j0 k l3 true) else (if a1 < 0 then (term_wrong.j0 k l3 true) else (if a1 ≥ a0 then (term_wrong.j0 k l3 true) else (if a2 < 1 then (term_wrong.j0 k l3 true) else (term_wrong.j0 k l3 (decide (a2 > 1125899906842623)))))))) = some r := h
 clear h
 have HC5 := Aside0.mk H
 clear H
 go_enter Try.func20, Try.ntmps20
 go_upto_region 1 with (fail)
 go_cut [9] (fun v9 wc => ∃ (kq : Nat) (x9_4 : Bool), v9 = .bool x9_4 ∧ Aside0 (term_wrong.j0 kq l3 x9_4 = some r) ∧ Aside0 (kq ≤ k) ∧ Drawn0 w wc)
 case first =>
  have H := HC5.out
  clear HC5
  by_cases c6 : a0 < 1
  ·rw [if_pos c6] at H
   have c6b0 : decide (a0 < 1) = true := decide_eq_true c6
   clear c6
   (first | rw [c6b0] | (simp only [i64_w, i32_w]; rw [c6b0]) | skip)
   have H' := Aside0.mk H
   clear H
   go_wp2
   go_meet
   case rel => exact ⟨_, (true), (by first | rfl | (simp; done) | (simp [*]; done)), H', ⟨by first | omega | exact Nat.le_refl _⟩, by repeat (first | exact Drawn0.refl _ | apply Drawn0.step)⟩
  ·rw [if_neg c6] at H
   have c6b0 : decide (a0 < 1) = false := decide_eq_false c6
   clear c6
   (first | rw [c6b0] | (simp only [i64_w, i32_w]; rw [c6b0]) | skip)
   by_cases c7 : a0 > 12
   ·rw [if_pos c7] at H
    have c7b0 : decide (12 < a0) = true := decide_eq_true c7
    clear c7
    have H' := Aside0.mk H
    clear H
    go_wp2
    go_meet
    case rel => exact ⟨_, (true), (by first | rfl | (simp; done) | (simp [*]; done)), H', ⟨by first | omega | exact Nat.le_refl _⟩, by repeat (first | exact Drawn0.refl _ | apply Drawn0.step)⟩
   ·rw [if_neg c7] at H
    have c7b0 : decide (12 < a0) = false := decide_eq_false c7
    clear c7
    by_cases c8 : a1 < 0
    ·rw [if_pos c8] at H
     have c8b0 : decide (a1 < 0) = true := decide_eq_true c8
     clear c8
     have H' := Aside0.mk H
     clear H
     go_wp2
     go_meet
     case rel => exact ⟨_, (true), (by first | rfl | (simp; done) | (simp [*]; done)), H', ⟨by first | omega | exact Nat.le_refl _⟩, by repeat (first | exact Drawn0.refl _ | apply Drawn0.step)⟩
    ·rw [if_neg c8] at H
     have c8b0 : decide (a1 < 0) = false := decide_eq_false c8
     clear c8
     by_cases c9 : a1 ≥ a0
     ·rw [if_pos c9] at H
      have c9b0 : decide (a0 ≤ a1) = true := decide_eq_true c9
      clear c9
      have H' := Aside0.mk H
      clear H
      go_wp2
      go_meet
      case rel => exact ⟨_, (true), (by first | rfl | (simp; done) | (simp [*]; done)), H', ⟨by first | omega | exact Nat.le_refl _⟩, by repeat (first | exact Drawn0.refl _ | apply Drawn0.step)⟩
     ·rw [if_neg c9] at H
      have c9b0 : decide (a0 ≤ a1) = false := decide_eq_false c9
      clear c9
      by_cases c10 : a2 < 1
      ·rw [if_pos c10] at H
       have c10b0 : decide (a2 < 1) = true := decide_eq_true c10
       clear c10
       have H' := Aside0.mk H
       clear H
       go_wp2
       go_meet
       case rel => exact ⟨_, (true), (by first | rfl | (simp; done) | (simp [*]; done)), H', ⟨by first | omega | exact Nat.le_refl _⟩, by repeat (first | exact Drawn0.refl _ | apply Drawn0.step)⟩
      ·rw [if_neg c10] at H
       have c10b0 : decide (a2 < 1) = false := decide_eq_false c10
       clear c10
       have H' := Aside0.mk H
       clear H
       go_wp2
       go_meet
       case rel => exact ⟨_, (decide (a2 > 1125899906842623)), (by first | rfl | (simp; done) | (simp [*]; done)), H', ⟨by first | omega | exact Nat.le_refl _⟩, by repeat (first | exact Drawn0.refl _ | apply Drawn0.step)⟩
 case rest =>
  clear HC5
  (try clear c1); (try clear c2); (try clear p2); (try clear c3); (try clear c6); (try clear c6b0); (try clear c7); (try clear c7b0); (try clear c8); (try clear c8b0); (try clear c9); (try clear c9b0); (try clear c10); (try clear c10b0)
  obtain ⟨kq, x9_4, rfl, HA, HJ4, ⟨mc4, rfl⟩⟩ := hcut
  cases kq with
  | zero => exact absurd HA.out (by simp [term_wrong.j0])
  | succ kj4 =>
   have H := HA.out
   clear HA
   simp only [term_wrong.j0] at H
   by_cases c11 : x9_4 = true
   ·subst c11
    have H1 : (some 1) = some r := by rw [if_pos rfl] at H; exact H
    clear H
    have H := H1
    clear H1
    obtain rfl := Option.some.inj H
    go_wp2
    go_ret
    exact ⟨by first | rfl | (simp; done) | (simp [*]; done), by repeat (first | exact Drawn0.refl _ | apply Drawn0.step)⟩
   ·replace c11 := Bool.eq_false_iff.mpr c11
    subst c11
    have H1 : (if (l3.length : Int) > 1024 then (some 2) else (some 0)) = some r := by rw [if_neg (show ¬ (false = true) by decide)] at H; exact H
    clear H
    have H := H1
    clear H1
    by_cases c12 : (l3.length : Int) > 1024
    ·rw [if_pos c12] at H
     have c12b0 : decide (1024 < (l3.length : Int)) = true := decide_eq_true c12
     have c12b1 : decide (1024 < l3.length) = true := decide_eq_true (by omega)
     clear c12
     obtain rfl := Option.some.inj H
     go_wp2
     go_ret
     exact ⟨by first | rfl | (simp; done) | (simp [*]; done), by repeat (first | exact Drawn0.refl _ | apply Drawn0.step)⟩
    ·rw [if_neg c12] at H
     have c12b0 : decide (1024 < (l3.length : Int)) = false := decide_eq_false c12
     have c12b1 : decide (1024 < l3.length) = false := decide_eq_false (by omega)
     clear c12
     obtain rfl := Option.some.inj H
     go_wp2
     go_ret
     exact ⟨by first | rfl | (simp; done) | (simp [*]; done), by repeat (first | exact Drawn0.refl _ | apply Drawn0.step)⟩

end Go.Proofs.Ytdecpagcaondiaa.Al

/- term.counted by its contract: the places of the first letters that count, by nodes, as pointers into the letters. -/
namespace Go.Proofs.Ytdecpagcaondiaa.Al
open Go.RowKit Go.Proofs.Ytdecpagcaondiaa.Base Go.Proofs.Ytdecpagcaondiaa.LetSpec Go.Proofs.Ytdecpagcaondiaa.TermSpec Go.Proofs.YtdecpagcaondiaaW.PrintWords Go.Proofs.YtdecpagcaondiaaW.PrintLast Go.Proofs.YtdecpagcaondiaaW.PrintMore
set_option linter.unusedVariables false
set_option linter.unusedSimpArgs false
/-- A pointer to a letter of a slice, by its place. -/
def ptrV (A : Option Addr) (o : Option Nat) : Value := .pointer (o.bind fun i => A.map fun a => a.add (i * 9))
def kP (A : Option Addr) : Kd (Option Nat) := Kd.scalar (ptrV A) (fun _ => rfl)
theorem info57 : (Try.prog.info? 57).map (fun i => (i.zero, i.size, i.bytes)) = some (some (.pointer none), 1, 8) := by kernel_rfl
theorem chk_some {x : S34} (h7 : x.f7.length ≤ 8796093022000) (h8 : x.f8.length ≤ 8796093022000) : letter_Check.f x.f0 x.f1 x.f2 x.f3 x.f4 x.f5 x.f6 x.f7 x.f8 = some (chkS x) := by
 unfold letter_Check.f chkS
 rw [if_pos ⟨h7, h8⟩]
set_option maxHeartbeats 8000000 in
set_option maxRecDepth 100000 in
theorem counted_calls (nodes txn kind : Int) (A0 : Option Addr) (c0 : Nat) (l0 : List S34) (w : World) (hr0 : Kd.C k34 w A0 l0.length l0) (hl : l0.length ≤ 1024) (hsz : ∀ i, (rd_T34 l0 i).f7.length ≤ 8796093022000 ∧ (rd_T34 l0 i).f8.length ≤ 8796093022000) (h0 : 1 ≤ nodes) (h1 : nodes ≤ 12) :
  Calls Try.prog 21 #[.int .i64 nodes, .int .i64 txn, .int .i64 kind, .slice A0 l0.length c0] w fun e w' => ∃ v : Value, e = .returned v ∧ (kP A0).R 57 w' w.heap.size (fun _ => True) v (full nodes txn kind l0) ∧ Below w.heap.size w w' := by
 have hu24 := Try.underlying24
 have hu34 := Try.underlying34
 have hu55 := Try.underlying55
 have HR0 := Aside0.mk hr0
 have HSZ := Aside0.mk hsz
 have HB := Aside0.mk (Below.refl w.heap.size w)
 clear hr0 hsz
 go_enter Try.func21, Try.ntmps21
 go_wp2_with (first | ((with_reducible refine gate_dst (N := 13) rfl ?_); refine Kd.R_make (kP A0) (w0 := w) w.heap.size 57 rfl (N := 13) rfl 55 (.tmp 12) (.tmp 12) rfl nodes rfl rfl Try.underlying55 (.pointer none) 8 info57 rfl Nat.one_pos (by decide) none (ok := fun _ => True) (okp := fun _ => True) ?mz (fun _ _ => trivial) trivial (by omega) (by omega) HB.out HB.out.size ?_; (case mz => exact rfl); intro v1 w1 ho hb hg hat; obtain ⟨g, cap, e1, hge, hlt, cells, hc⟩ := Kd.R_form ho (by simp; omega); rw [List.length_replicate] at e1; subst e1; have HO0 := Aside0.mk ho; have HB1 := Aside0.mk hb; have HG := Aside0.mk hge; clear ho hb hg hat hge hlt hc))
 go_loopw [16] (fun v16 wr => ∃ (i : Nat) (x : Int), v16 = .int .i64 x ∧ Aside0 (x = (i : Int)) ∧ Aside0 (i ≤ l0.length) ∧ Aside0 (Below w.heap.size w wr) ∧ Aside0 ((kP A0).R 57 wr w.heap.size (fun _ => True) (.slice (some ⟨g, 0, none⟩) nodes.toNat cap) (tab nodes txn kind l0 i))) (fun v16 _ => l0.length - (intOf v16).toNat)
 case atStart => exact ⟨0, 0, rfl, ⟨rfl⟩, ⟨Nat.zero_le _⟩, HB1, HO0⟩
 case round =>
  obtain ⟨i, x, rfl, hx, hi, HBr, HO⟩ := hrel
  clear HB1 HO0 HB
  have hxi := hx.out
  have hile := hi.out
  by_cases hlt : i < l0.length
  ·have c1 : decide (x < (l0.length : Int)) = true := decide_eq_true (by omega)
   have p1 : 0 ≤ x := by omega
   have q1 : x < (l0.length : Int) := by omega
   have b1 : x ≤ 1024 := by omega
   obtain ⟨ad, A7, c7, A8, c8, eA, hx0, hx1, hx2, hx3, hx4, hx5, hx6, hx7, hx8, l7, g7, l8, g8⟩ := at_T34 HR0.out x p1 q1
   subst eA
   have hsz := HSZ.out x
   have hrd : rd_T34 l0 x = rd_T34 l0 (i : Int) := by rw [hxi]
   have hno : ¬ (okB nodes txn kind (rd_T34 l0 x) = true ∧ rdOf none (tab nodes txn kind l0 i) (rd_T34 l0 x).f1 = none) → tab nodes txn kind l0 (i + 1) = tab nodes txn kind l0 i := fun h => tab_no (by rw [← hrd]; exact h)
   have hyes : okB nodes txn kind (rd_T34 l0 x) = true → rdOf none (tab nodes txn kind l0 i) (rd_T34 l0 x).f1 = none → tab nodes txn kind l0 (i + 1) = (tab nodes txn kind l0 i).set (rd_T34 l0 x).f1.toNat (some i) := fun h h2 => by rw [hrd] at h h2 ⊢; exact tab_yes h h2
   clear hrd
   generalize rd_T34 l0 x = y at *
   replace hx0 := (HBr.out.cell (World.block_lt_of_cell? w _ hx0)).trans hx0
   replace hx1 := (HBr.out.cell (World.block_lt_of_cell? w _ hx1)).trans hx1
   replace hx2 := (HBr.out.cell (World.block_lt_of_cell? w _ hx2)).trans hx2
   replace hx3 := (HBr.out.cell (World.block_lt_of_cell? w _ hx3)).trans hx3
   replace hx4 := (HBr.out.cell (World.block_lt_of_cell? w _ hx4)).trans hx4
   replace hx5 := (HBr.out.cell (World.block_lt_of_cell? w _ hx5)).trans hx5
   replace hx6 := (HBr.out.cell (World.block_lt_of_cell? w _ hx6)).trans hx6
   replace hx7 := (HBr.out.cell (World.block_lt_of_cell? w _ hx7)).trans hx7
   replace hx8 := (HBr.out.cell (World.block_lt_of_cell? w _ hx8)).trans hx8
   have HNO := Aside0.mk hno
   have HYES := Aside0.mk hyes
   have G7 := Aside0.mk (Kd.C_below g7 HBr.out)
   have G8 := Aside0.mk (Kd.C_below g8 HBr.out)
   have L7 := Aside0.mk l7
   have L8 := Aside0.mk l8
   have SZ := Aside0.mk hsz
   have HI := Aside0.mk (show x + 1 = ((i + 1 : Nat) : Int) from by omega)
   have HLE := Aside0.mk (show i + 1 ≤ l0.length from hlt)
   have HM := Aside0.mk (show l0.length - (intOf (.int .i64 (x + 1))).toNat < l0.length - (intOf (.int .i64 x)).toNat from by simp [intOf]; omega)
   clear hno hyes g7 g8 l7 l8 hsz hxi hile hlt
   by_cases k1 : y.f0 = kind
   rotate_left
   ·have f1 : (y.f0 == kind) = false := beq_eq_false_iff_ne.2 k1
    have HO1 := Aside0.mk (show (kP (some ad)).R 57 _ w.heap.size (fun _ => True) (.slice (some ⟨g, 0, none⟩) nodes.toNat cap) (tab nodes txn kind l0 (i + 1)) from by rw [HNO.out (fun h => k1 (of_decide_eq_true h.1).1)]; exact HO.out)
    clear k1
    go_wp2
    go_roundw
    case rel => exact ⟨i + 1, x + 1, rfl, HI, HLE, HBr, HO1⟩
    case measure => exact HM.out
   have f1 : (y.f0 == kind) = true := beq_iff_eq.2 k1
   by_cases k2 : y.f3 = txn
   rotate_left
   ·have f2 : (y.f3 == txn) = false := beq_eq_false_iff_ne.2 k2
    have HO1 := Aside0.mk (show (kP (some ad)).R 57 _ w.heap.size (fun _ => True) (.slice (some ⟨g, 0, none⟩) nodes.toNat cap) (tab nodes txn kind l0 (i + 1)) from by rw [HNO.out (fun h => k2 (of_decide_eq_true h.1).2.1)]; exact HO.out)
    clear k1 k2
    go_wp2
    go_roundw
    case rel => exact ⟨i + 1, x + 1, rfl, HI, HLE, HBr, HO1⟩
    case measure => exact HM.out
   have f2 : (y.f3 == txn) = true := beq_iff_eq.2 k2
   by_cases k3 : 0 ≤ y.f1
   rotate_left
   ·have f3 : decide (0 ≤ y.f1) = false := decide_eq_false k3
    have HO1 := Aside0.mk (show (kP (some ad)).R 57 _ w.heap.size (fun _ => True) (.slice (some ⟨g, 0, none⟩) nodes.toNat cap) (tab nodes txn kind l0 (i + 1)) from by rw [HNO.out (fun h => k3 (of_decide_eq_true h.1).2.2.1)]; exact HO.out)
    clear k1 k2 k3
    go_wp2
    go_roundw
    case rel => exact ⟨i + 1, x + 1, rfl, HI, HLE, HBr, HO1⟩
    case measure => exact HM.out
   have f3 : decide (0 ≤ y.f1) = true := decide_eq_true k3
   by_cases k4 : y.f1 < nodes
   rotate_left
   ·have f4 : decide (y.f1 < nodes) = false := decide_eq_false k4
    have HO1 := Aside0.mk (show (kP (some ad)).R 57 _ w.heap.size (fun _ => True) (.slice (some ⟨g, 0, none⟩) nodes.toNat cap) (tab nodes txn kind l0 (i + 1)) from by rw [HNO.out (fun h => k4 (of_decide_eq_true h.1).2.2.2.1)]; exact HO.out)
    clear k1 k2 k4
    go_wp2
    go_roundw
    case rel => exact ⟨i + 1, x + 1, rfl, HI, HLE, HBr, HO1⟩
    case measure => exact HM.out
   have f4 : decide (y.f1 < nodes) = true := decide_eq_true k4
   have hnl : (tab nodes txn kind l0 i).length = nodes.toNat := tab_len _ _ _ _ _
   have HR := Aside0.mk (show (kP (some ad)).R 57 wr w.heap.size (fun _ => True) (.slice (some ⟨g, 0, none⟩) (tab nodes txn kind l0 i).length cap) (tab nodes txn kind l0 i) from by rw [hnl]; exact HO.out)
   obtain ⟨hy, hyf⟩ := Kd.R_cell none HR.out y.f1 k3 (by rw [hnl]; omega)
   have k5 : y.f1 < (nodes.toNat : Int) := by omega
   have K12 : Aside0 (y.f0 = kind ∧ y.f3 = txn ∧ 0 ≤ y.f1 ∧ y.f1 < nodes) := ⟨k1, k2, k3, k4⟩
   clear k1 k2 hnl
   rcases hp : rdOf none (tab nodes txn kind l0 i) y.f1 with _ | p
   rotate_left
   ·rw [hp] at hy
    replace hy : wr.cell? ⟨g, y.f1.toNat, none⟩ = some (.pointer (some (ad.add (p * 9)))) := hy
    have HO1 := Aside0.mk (show (kP (some ad)).R 57 _ w.heap.size (fun _ => True) (.slice (some ⟨g, 0, none⟩) nodes.toNat cap) (tab nodes txn kind l0 (i + 1)) from by rw [HNO.out (fun h => by rw [hp] at h; cases h.2)]; exact HO.out)
    clear hp
    go_wp2
    go_roundw
    case rel => exact ⟨i + 1, x + 1, rfl, HI, HLE, HBr, HO1⟩
    case measure => exact HM.out
   rw [hp] at hy
   replace hy : wr.cell? ⟨g, y.f1.toNat, none⟩ = some (.pointer none) := hy
   have HP := Aside0.mk hp
   clear hp
   by_cases k6 : chkS y = 0
   rotate_left
   ·have f6 : (chkS y == 0) = false := beq_eq_false_iff_ne.2 k6
    have HO1 := Aside0.mk (show (kP (some ad)).R 57 _ w.heap.size (fun _ => True) (.slice (some ⟨g, 0, none⟩) nodes.toNat cap) (tab nodes txn kind l0 (i + 1)) from by rw [HNO.out (fun h => k6 (of_decide_eq_true h.1).2.2.2.2)]; exact HO.out)
    clear k6
    go_wp2_with (go_at_call 26; refine (letter_Check.calls y.f0 y.f1 y.f2 y.f3 y.f4 y.f5 y.f6 _ _ y.f7 _ _ y.f8 (chkS y) _ G7.out L7.out G8.out L8.out (chk_some SZ.out.1 SZ.out.2)).mono ?_; rintro e w9 ⟨rfl, hb9⟩; have HB9 := Aside0.mk (below_step (w := w) HBr.out hb9); have HO9 := Aside0.mk (Kd.R_below HO.out hb9); clear hb9)
    have HO2 := Aside0.mk (show (kP (some ad)).R 57 w9 w.heap.size (fun _ => True) (.slice (some ⟨g, 0, none⟩) nodes.toNat cap) (tab nodes txn kind l0 (i + 1)) from by rw [HNO.out (fun h => absurd (of_decide_eq_true h.1).2.2.2.2 (beq_eq_false_iff_ne.1 f6))]; exact HO9.out)
    go_roundw
    case rel => exact ⟨i + 1, x + 1, rfl, HI, HLE, HB9, HO2⟩
    case measure => exact HM.out
   have f6 : (chkS y == 0) = true := beq_iff_eq.2 k6
   have HT := Aside0.mk (HYES.out (decide_eq_true ⟨K12.out.1, K12.out.2.1, K12.out.2.2.1, K12.out.2.2.2, k6⟩) HP.out)
   clear k6
   go_wp2_with (go_at_call 26; refine (letter_Check.calls y.f0 y.f1 y.f2 y.f3 y.f4 y.f5 y.f6 _ _ y.f7 _ _ y.f8 (chkS y) _ G7.out L7.out G8.out L8.out (chk_some SZ.out.1 SZ.out.2)).mono ?_; rintro e w9 ⟨rfl, hb9⟩; have HB9 := Aside0.mk (below_step (w := w) HBr.out hb9); have HO9 := Aside0.mk (Kd.R_below HO.out hb9); have hy9 := (hb9.cell (World.block_lt_of_cell? wr _ hy)).trans hy; have hyf9 := (hb9.frozen (World.block_lt_of_cell? wr _ hy)).trans hyf; replace hx1 := (hb9.cell (World.block_lt_of_cell? wr _ hx1)).trans hx1; clear hb9)
   have ho9 := (Kd.R_put (show (kP (some ad)).R 57 w9 w.heap.size (fun _ => True) (.slice (some ⟨g, 0, none⟩) (tab nodes txn kind l0 i).length cap) (tab nodes txn kind l0 i) from by rw [tab_len]; exact HO9.out) y.f1 (some i)).1
   rw [tab_len, ← HT.out, show ptrV (some ad) (some i) = .pointer (some (ad.add (x.toNat * 9))) from by rw [show x.toNat = i from by rw [hx.out]; rfl]; rfl] at ho9
   exact ⟨⟨i + 1, x + 1, rfl, HI, HLE, ⟨below_set HB9.out HG.out⟩, ⟨ho9⟩⟩, HM.out⟩
  ·have c1 : decide (x < (l0.length : Int)) = false := decide_eq_false (by omega)
   obtain rfl : i = l0.length := by omega
   clear hxi hile hlt
   go_wp2
   go_ret
   exact ⟨_, rfl, HO.out, HBr.out⟩
end Go.Proofs.Ytdecpagcaondiaa.Al

/- term.Votes by its contract. An own text in the printer's form. -/
namespace Go.Proofs.Ytdecpagcaondiaa.Al
open Go.RowKit Go.Proofs.Ytdecpagcaondiaa.Base Go.Proofs.Ytdecpagcaondiaa.LetSpec Go.Proofs.Ytdecpagcaondiaa.TermSpec Go.Proofs.YtdecpagcaondiaaW.PrintWords Go.Proofs.YtdecpagcaondiaaW.PrintLast Go.Proofs.YtdecpagcaondiaaW.PrintMore
set_option linter.unusedVariables false
set_option linter.unusedSimpArgs false
/-- Each letter's own lists are of a length that memory holds. -/
def lenOk (l : List S34) : Bool := l.all fun x => decide (x.f7.length ≤ 8796093022000 ∧ x.f8.length ≤ 8796093022000)
theorem lenOk_at {l : List S34} (h : lenOk l = true) (i : Int) : (rd_T34 l i).f7.length ≤ 8796093022000 ∧ (rd_T34 l i).f8.length ≤ 8796093022000 := by
 by_cases hi : i.toNat < l.length
 ·have hm : rd_T34 l i ∈ l := by
   have e : rd_T34 l i = l[i.toNat] := by simp [rd_T34, List.getD_eq_getElem?_getD, hi]
   rw [e]; exact List.getElem_mem hi
  exact of_decide_eq_true (List.all_eq_true.1 h _ hm)
 ·have e : rd_T34 l i = z34 := by simp [rd_T34, List.getD_eq_getElem?_getD, Nat.not_lt.1 hi]
  rw [e]; simp [z34]
theorem wrong_ev (nodes me txn : Int) (l : List S34) : Ev (fun k => term_wrong.f k nodes me txn l) (wrongL nodes me txn l.length) := by
 have hj : ∀ b : Bool, Ev (fun k => term_wrong.j0 k l b) (if b = true then 1 else if (l.length : Int) > 1024 then 2 else 0) := fun b => by
  refine Ev.succ ?_
  by_cases hb : b = true
  ·simp only [term_wrong.j0, if_pos hb]; exact Ev.now _
  ·by_cases hl : (l.length : Int) > 1024
   ·simp only [term_wrong.j0, if_neg hb, if_pos hl]; exact Ev.now _
   ·simp only [term_wrong.j0, if_neg hb, if_neg hl]; exact Ev.now _
 have ht := hj true
 unfold term_wrong.f wrongL
 by_cases c1 : nodes < 1
 ·refine Ev.pos c1 ?_
  rw [if_pos (by omega)]; exact ht
 refine Ev.neg c1 ?_
 by_cases c2 : nodes > 12
 ·refine Ev.pos c2 ?_
  rw [if_pos (by omega)]; exact ht
 refine Ev.neg c2 ?_
 by_cases c3 : me < 0
 ·refine Ev.pos c3 ?_
  rw [if_pos (by omega)]; exact ht
 refine Ev.neg c3 ?_
 by_cases c4 : me ≥ nodes
 ·refine Ev.pos c4 ?_
  rw [if_pos (by omega)]; exact ht
 refine Ev.neg c4 ?_
 by_cases c5 : txn < 1
 ·refine Ev.pos c5 ?_
  rw [if_pos (by omega)]; exact ht
 refine Ev.neg c5 ?_
 have h := hj (decide (txn > 1125899906842623))
 by_cases c6 : txn > 1125899906842623
 ·rw [decide_eq_true c6, if_pos rfl] at h
  rw [if_pos (by omega)]
  simpa only [decide_eq_true c6] using h
 ·rw [decide_eq_false c6, if_neg (by decide)] at h
  rw [if_neg (by omega)]
  by_cases hl : 1024 < l.length
  ·rw [if_pos (by omega)] at h
   rw [if_pos hl]; simpa only [decide_eq_false c6] using h
  ·rw [if_neg (by omega)] at h
   rw [if_neg hl]; simpa only [decide_eq_false c6] using h
theorem wrong_calls (nodes me txn : Int) (A3 : Option Addr) (c3 : Nat) (l3 : List S34) (w : World) (hr3 : Kd.C k34 w A3 l3.length l3) (hc3 : l3.length ≤ c3) :
  Calls Try.prog 20 #[.int .i64 nodes, .int .i64 me, .int .i64 txn, .slice A3 l3.length c3] w fun e w' => e = .returned (.int .i64 (wrongL nodes me txn l3.length)) ∧ Below w.heap.size w w' := by
 obtain ⟨k, hk⟩ := Ev.rounds (wrong_ev nodes me txn l3)
 exact (term_wrong.calls k nodes me txn A3 c3 l3 _ w hr3 hc3 hk).mono fun e w' ⟨h, hd⟩ => ⟨h, hd.below⟩
theorem wrong_zero {nodes me txn : Int} {n : Nat} (h : wrongL nodes me txn n = 0) : 1 ≤ nodes ∧ nodes ≤ 12 ∧ 0 ≤ me ∧ me < nodes ∧ n ≤ 1024 := by
 unfold wrongL at h
 split at h
 ·cases h
 ·split at h
  ·cases h
  ·omega
/-- What an entry of the table leads to. -/
theorem full_at {nodes txn kind : Int} {l : List S34} {w w2 : World} {A0 : Option Addr} (hr0 : Kd.C k34 w A0 l.length l) (hb : Below w.heap.size w w2) {x : Int} {p : Nat} (hp : rdOf none (full nodes txn kind l) x = some p) :
  ∃ ad, A0 = some ad ∧ w2.cell? ⟨(ad.add (p * 9)).block, (ad.add (p * 9)).off + 5, none⟩ = some (.int .i64 (rd_T34 l p).f5) ∧ w2.cell? ⟨(ad.add (p * 9)).block, (ad.add (p * 9)).off + 4, none⟩ = some (.int .i64 (rd_T34 l p).f4) := by
 have hlt : p < l.length := by
  have hg : (full nodes txn kind l)[x.toNat]? = some (some p) := by
   simp only [rdOf, List.getD_eq_getElem?_getD] at hp
   cases hc : (full nodes txn kind l)[x.toNat]? with
   | none => rw [hc] at hp; cases hp
   | some o => rw [hc] at hp; simp at hp; rw [hp]
  exact tab_lt nodes txn kind l _ _ _ hg
 obtain ⟨ad, A7, c7, A8, c8, eA, hx0, hx1, hx2, hx3, hx4, hx5, hx6, hx7, hx8, l7, g7, l8, g8⟩ := at_T34 hr0 (p : Int) (by omega) (by omega)
 simp only [Int.toNat_natCast] at hx4 hx5
 exact ⟨ad, eA, (hb.cell (World.block_lt_of_cell? w _ hx5)).trans hx5, (hb.cell (World.block_lt_of_cell? w _ hx4)).trans hx4⟩
theorem drop_at {α : Type} {d : α} {os : List α} {j : Nat} (h : j < os.length) : os.drop j = rdOf d os (j : Int) :: os.drop (j + 1) := by
 rw [List.drop_eq_getElem_cons h]
 congr 1
 simp [rdOf, List.getD_eq_getElem?_getD, h]
def term_Votes.f (a0 a1 : Int) (l2 : List S34) : Option (Int × Int) := if lenOk l2 = true then some (votesL a0 a1 l2) else none
set_option maxHeartbeats 8000000 in
set_option maxRecDepth 100000 in
theorem votes_bad (nodes txn : Int) (A0 : Option Addr) (c0 : Nat) (l0 : List S34) (w : World) (hr0 : Kd.C k34 w A0 l0.length l0) (hc0 : l0.length ≤ c0) (he : wrongL nodes 0 txn l0.length ≠ 0) :
  Calls Try.prog 10 #[.int .i64 nodes, .int .i64 txn, .slice A0 l0.length c0] w fun e w' => e = .returned (.tuple #[.int .i64 0, .int .i64 (wrongL nodes 0 txn l0.length)]) ∧ Below w.heap.size w w' := by
 have HR0 := Aside0.mk hr0
 have HC0 := Aside0.mk hc0
 have f1 : (wrongL nodes 0 txn l0.length == 0) = false := beq_eq_false_iff_ne.2 he
 have f2 : (wrongL nodes 0 txn l0.length != 0) = true := bne_iff_ne.2 he
 clear hr0 hc0 he
 go_enter Try.func10, Try.ntmps10
 go_wp2_with (go_at_call 20; refine (wrong_calls nodes 0 txn _ _ l0 _ HR0.out HC0.out).mono ?_; rintro e w1 ⟨rfl, hb⟩; have HB1 := Aside0.mk hb; clear hb)
 go_ret2
 exact ⟨rfl, HB1.out⟩
set_option maxHeartbeats 8000000 in
set_option maxRecDepth 100000 in
theorem votes_good (nodes txn : Int) (A0 : Option Addr) (c0 : Nat) (l0 : List S34) (w : World) (hr0 : Kd.C k34 w A0 l0.length l0) (hc0 : l0.length ≤ c0) (hsz : lenOk l0 = true) (he : wrongL nodes 0 txn l0.length = 0) :
  Calls Try.prog 10 #[.int .i64 nodes, .int .i64 txn, .slice A0 l0.length c0] w fun e w' => e = .returned (.tuple #[.int .i64 (vgo l0 (full nodes txn 4 l0) 1), .int .i64 0]) ∧ Below w.heap.size w w' := by
 have HR0 := Aside0.mk hr0
 have HC0 := Aside0.mk hc0
 have HE := Aside0.mk he
 have HZ := Aside0.mk (wrong_zero he)
 have HSZ := Aside0.mk hsz
 clear hr0 hc0 he hsz
 go_enter Try.func10, Try.ntmps10
 go_wp2_with (first | (go_at_call 20; refine (wrong_calls nodes 0 txn _ _ l0 _ HR0.out HC0.out).mono ?_; rintro e w1 ⟨rfl, hb⟩; rw [HE.out]; have HB1 := Aside0.mk hb; clear hb) | (go_at_call 21; refine (counted_calls nodes txn 4 A0 c0 l0 _ (Kd.C_below HR0.out HB1.out) HZ.out.2.2.2.2 (lenOk_at HSZ.out) HZ.out.1 HZ.out.2.1).mono ?_; rintro e w2 ⟨v, rfl, ho, hb⟩; obtain ⟨g, cap, e1, hge, hlt, cells, hc⟩ := Kd.R_form ho (by have := HZ.out.1; rw [full, tab_len]; omega); subst e1; have HO := Aside0.mk ho; have HB2 := Aside0.mk (below_step (w := w) HB1.out hb); clear ho hb hge hlt hc))
 go_loop [9, 24] (fun v9 v24 => ∃ (j : Nat) (x o : Int), v9 = .int .i64 o ∧ v24 = .int .i64 x ∧ Aside0 (x = (j : Int)) ∧ Aside0 (j ≤ (full nodes txn 4 l0).length) ∧ Aside0 (vgo l0 ((full nodes txn 4 l0).drop j) o = vgo l0 (full nodes txn 4 l0) 1)) (fun _ v24 => (full nodes txn 4 l0).length - (intOf v24).toNat)
 case atStart => exact ⟨0, 0, 1, rfl, rfl, ⟨rfl⟩, ⟨Nat.zero_le _⟩, ⟨by rw [List.drop_zero]⟩⟩
 case round =>
  obtain ⟨j, x, o, rfl, rfl, hx, hj, hv⟩ := hrel
  have hxi := hx.out
  have hjle := hj.out
  have hn : (full nodes txn 4 l0).length ≤ 12 := by have := HZ.out.2.1; rw [full, tab_len]; omega
  by_cases hlt : j < (full nodes txn 4 l0).length
  ·have c1 : decide (x < ((full nodes txn 4 l0).length : Int)) = true := decide_eq_true (by omega)
   have p1 : 0 ≤ x := by omega
   have q1 : x < ((full nodes txn 4 l0).length : Int) := by omega
   have b1 : x ≤ 12 := by omega
   have hd := drop_at (d := none) hlt
   rw [← hxi] at hd
   have hv1 := hv.out
   rw [hd] at hv1
   obtain ⟨hy, hyf⟩ := Kd.R_cell none HO.out x p1 q1
   have HI := Aside0.mk (show x + 1 = ((j + 1 : Nat) : Int) from by omega)
   have HLE := Aside0.mk (show j + 1 ≤ (full nodes txn 4 l0).length from hlt)
   have HM := Aside0.mk (show (full nodes txn 4 l0).length - (intOf (.int .i64 (x + 1))).toNat < (full nodes txn 4 l0).length - (intOf (.int .i64 x)).toNat from by simp [intOf]; omega)
   clear hd hxi hjle hlt hn
   rcases hp : rdOf none (full nodes txn 4 l0) x with _ | p
   ·rw [hp] at hy hv1
    replace hy : w2.cell? ⟨g, x.toNat, none⟩ = some (.pointer none) := hy
    have HV := Aside0.mk (show vgo l0 ((full nodes txn 4 l0).drop (j + 1)) 0 = vgo l0 (full nodes txn 4 l0) 1 from hv1)
    clear hp hv1
    go_wp2
    go_round
    case rel => exact ⟨j + 1, x + 1, 0, rfl, rfl, HI, HLE, HV⟩
    case measure => exact HM.out
   ·obtain ⟨ad, eA, h5, h4⟩ := full_at HR0.out HB2.out hp
    rw [hp] at hy hv1
    subst eA
    replace hy : w2.cell? ⟨g, x.toNat, none⟩ = some (.pointer (some (ad.add (p * 9)))) := hy
    by_cases hz : (rd_T34 l0 p).f5 = 0
    ·rw [vgo, if_pos hz] at hv1
     have f1 : ((rd_T34 l0 p).f5 == 0) = true := beq_iff_eq.2 hz
     have HV := Aside0.mk hv1
     clear hp hv1 hz
     go_wp2
     go_ret2
     exact ⟨by rw [← HV.out]; rfl, HB2.out⟩
    ·rw [vgo, if_neg hz] at hv1
     have f1 : ((rd_T34 l0 p).f5 == 0) = false := beq_eq_false_iff_ne.2 hz
     have HV := Aside0.mk hv1
     clear hp hv1 hz
     go_wp2
     go_round
     case rel => exact ⟨j + 1, x + 1, o, rfl, rfl, HI, HLE, HV⟩
     case measure => exact HM.out
  ·have c1 : decide (x < ((full nodes txn 4 l0).length : Int)) = false := decide_eq_false (by omega)
   have hv1 := hv.out
   rw [List.drop_of_length_le (by omega)] at hv1
   have HV := Aside0.mk hv1
   clear hv1 hxi hjle hlt hn
   go_wp2
   go_ret2
   exact ⟨by rw [← HV.out]; rfl, HB2.out⟩
theorem term_Votes.calls (a0 a1 : Int) (A2 : Option Addr) (c2 : Nat) (l2 : List S34) (r1 r2 : Int) (w : World) (hr2 : Kd.C k34 w A2 l2.length l2) (hc2 : l2.length ≤ c2) (h : term_Votes.f a0 a1 l2 = some (r1, r2)) :
  Calls Try.prog 10 #[.int .i64 a0, .int .i64 a1, .slice A2 l2.length c2] w fun e w' => e = .returned (.tuple #[.int .i64 r1, .int .i64 r2]) ∧ Below w.heap.size w w' := by
 unfold term_Votes.f at h
 split at h
 case isFalse => cases h
 rename_i hs
 unfold votesL at h
 by_cases he : wrongL a0 0 a1 l2.length = 0
 ·rw [if_pos he] at h
  simp only [Option.some.injEq, Prod.mk.injEq] at h
  obtain ⟨rfl, rfl⟩ := h
  exact votes_good a0 a1 A2 c2 l2 w hr2 hc2 hs he
 ·rw [if_neg he] at h
  simp only [Option.some.injEq, Prod.mk.injEq] at h
  obtain ⟨rfl, rfl⟩ := h
  exact votes_bad a0 a1 A2 c2 l2 w hr2 hc2 he
end Go.Proofs.Ytdecpagcaondiaa.Al

/- One function of the program comes to what its plain twin says. This text began as the kit's own print (print.py, made by cprint.sh) and was turned by split.py: it is no printed file. -/
namespace Go.Proofs.Ytdecpagcaondiaa.Al
open Go.RowKit Go.Proofs.YtdecpagcaondiaaW.PrintWords Go.Proofs.YtdecpagcaondiaaW.PrintLast Go.Proofs.YtdecpagcaondiaaW.PrintMore
attribute [local go_sem] max2_int min2_int max_two min_two max_three min_three max_four min_four   -- for this text's walks alone
set_option linter.unusedVariables false
set_option linter.unusedSimpArgs false

/-! ### corncriblaw21_ballot: function 17 -/
def corncriblaw21_ballot.f (a0 : Int) (a1 : Int) : Option (Int × Int × Int × Int × Int × Int × ByteArray × List ByteArray × (List (S70))) := some (4, a0, 100, 5, 0, a1, (⟨#[]⟩ : ByteArray), ([] : List ByteArray), ([] : List (S70)))
set_option maxHeartbeats 8000000 in
set_option maxRecDepth 100000 in
theorem corncriblaw21_ballot.calls (a0 : Int) (a1 : Int) (r1 : Int) (r2 : Int) (r3 : Int) (r4 : Int) (r5 : Int) (r6 : Int) (r7 : ByteArray) (r8 : List ByteArray) (r9 : List (S70)) (w : World) (h : corncriblaw21_ballot.f a0 a1 = some (r1, r2, r3, r4, r5, r6, r7, r8, r9)) :
  Calls Try.prog 17 #[.int .i64 a0, .int .i64 a1] w fun e w' => ∃ v7_ v8_ : Value, e = .returned (.agg #[.int .i64 r1, .int .i64 r2, .int .i64 r3, .int .i64 r4, .int .i64 r5, .int .i64 r6, .string r7, v7_, v8_]) ∧ Kd.R Kd.string 9 w' w.heap.size (fun _ => True) v7_ r8 ∧ Kd.R k70 70 w' w.heap.size (fun _ => True) v8_ r9 ∧ Below w.heap.size w w' := by
 have hu34 := Try.underlying34
 have HB := Aside0.mk (Below.refl w.heap.size w)
 have H : (some (4, a0, 100, 5, 0, a1, (⟨#[]⟩ : ByteArray), ([] : List ByteArray), ([] : List (S70)))) = some (r1, r2, r3, r4, r5, r6, r7, r8, r9) := h
 clear h
 simp only [Option.some.injEq, Prod.mk.injEq] at H
 obtain ⟨rfl, rfl, rfl, rfl, rfl, rfl, rfl, rfl, rfl⟩ := H
 go_enter Try.func17, Try.ntmps17
 go_wp2_with (first | ((with_reducible refine gate_dst (N := 4) rfl ?_); refine box_event ?hg (N := 4) ?hd (cs := #[.int .i64 0, .int .i64 0, .int .i64 0, .int .i64 0, .int .i64 0, .int .i64 0, .string (⟨#[]⟩ : ByteArray), .slice none 0 0, .slice none 0 0]) (t := 34) ?hr ?_; (case hd => rfl); (case hg => rfl); (case hr => first | (go_simp; done) | (go_simp; rfl)); intro gb113 hg w3 hbox hb; have n0_ := Aside0.mk (below_step (by repeat (first | (with_reducible first | exact HB.out | apply below_alloc | apply pw_below_drewN | apply below_drew1) | exact HB.out)) hb); have n1_ := Aside0.mk (hbox); have n2_ := Aside0.mk ((by rw [hg]; exact (below_size (by repeat (first | (with_reducible first | exact HB.out | apply below_alloc | apply pw_below_drewN | apply below_drew1) | exact HB.out))) : w.heap.size ≤ gb113)); have n3_ := Aside0.mk ((by rw [hg]; exact (below_size (by repeat (first | (with_reducible first | exact HB.out | apply below_alloc | apply pw_below_drewN | apply below_drew1) | exact HB.out))) : w.heap.size ≤ gb113)); clear HB; have HB := n0_; have BK113 := n1_; have GW113 := n2_; have GE113 := n3_; clear n0_ n1_ n2_ n3_; clear hb hbox hg; have hcz4_0 : w3.cell? ⟨gb113, 0, none⟩ = some (.int .i64 0) := (blk_cell BK113.out 0).trans rfl; have hcz4_1 : w3.cell? ⟨gb113, 1, none⟩ = some (.int .i64 0) := (blk_cell BK113.out 1).trans rfl; have hcz4_2 : w3.cell? ⟨gb113, 2, none⟩ = some (.int .i64 0) := (blk_cell BK113.out 2).trans rfl; have hcz4_3 : w3.cell? ⟨gb113, 3, none⟩ = some (.int .i64 0) := (blk_cell BK113.out 3).trans rfl; have hcz4_4 : w3.cell? ⟨gb113, 4, none⟩ = some (.int .i64 0) := (blk_cell BK113.out 4).trans rfl; have hcz4_5 : w3.cell? ⟨gb113, 5, none⟩ = some (.int .i64 0) := (blk_cell BK113.out 5).trans rfl; have hcz4_6 : w3.cell? ⟨gb113, 6, none⟩ = some (.string (⟨#[]⟩ : ByteArray)) := (blk_cell BK113.out 6).trans rfl; have hcz4_7 : w3.cell? ⟨gb113, 7, none⟩ = some (.slice none 0 0) := (blk_cell BK113.out 7).trans rfl; have hcz4_8 : w3.cell? ⟨gb113, 8, none⟩ = some (.slice none 0 0) := (blk_cell BK113.out 8).trans rfl; have hfz4_0 := blk_frozen BK113.out 0; have hfz4_1 := blk_frozen BK113.out 1; have hfz4_2 := blk_frozen BK113.out 2; have hfz4_3 := blk_frozen BK113.out 3; have hfz4_4 := blk_frozen BK113.out 4; have hfz4_5 := blk_frozen BK113.out 5; have hfz4_6 := blk_frozen BK113.out 6; have hfz4_7 := blk_frozen BK113.out 7; have hfz4_8 := blk_frozen BK113.out 8))
 refine bodyPost_ret (results_cell_row rfl _ _ gb113 34 #[.int .i64 4, .int .i64 a0, .int .i64 100, .int .i64 5, .int .i64 0, .int .i64 a1, .string (⟨#[]⟩ : ByteArray), .slice none 0 0, .slice none 0 0] (0, 0) _ rfl (by (with_reducible repeat (first | refine blk_drewN ?_ _ | refine blk_drew ?_ | refine blk_alloc ?_ _)); refine blk_put (cs := #[.int .i64 4, .int .i64 a0, .int .i64 100, .int .i64 5, .int .i64 0, .int .i64 a1, .string (⟨#[]⟩ : ByteArray), .slice none 0 0, .slice none 0 0]) ?_ 8 _ rfl; (with_reducible repeat (first | refine blk_drewN ?_ _ | refine blk_drew ?_ | refine blk_alloc ?_ _)); refine blk_put (cs := #[.int .i64 4, .int .i64 a0, .int .i64 100, .int .i64 5, .int .i64 0, .int .i64 a1, .string (⟨#[]⟩ : ByteArray), .slice none 0 0, .slice none 0 0]) ?_ 7 _ rfl; (with_reducible repeat (first | refine blk_drewN ?_ _ | refine blk_drew ?_ | refine blk_alloc ?_ _)); refine blk_put (cs := #[.int .i64 4, .int .i64 a0, .int .i64 100, .int .i64 5, .int .i64 0, .int .i64 a1, .string (⟨#[]⟩ : ByteArray), .slice none 0 0, .slice none 0 0]) ?_ 6 _ rfl; (with_reducible repeat (first | refine blk_drewN ?_ _ | refine blk_drew ?_ | refine blk_alloc ?_ _)); refine blk_put (cs := #[.int .i64 4, .int .i64 a0, .int .i64 100, .int .i64 5, .int .i64 0, .int .i64 0, .string (⟨#[]⟩ : ByteArray), .slice none 0 0, .slice none 0 0]) ?_ 5 _ rfl; (with_reducible repeat (first | refine blk_drewN ?_ _ | refine blk_drew ?_ | refine blk_alloc ?_ _)); refine blk_put (cs := #[.int .i64 4, .int .i64 a0, .int .i64 100, .int .i64 5, .int .i64 0, .int .i64 0, .string (⟨#[]⟩ : ByteArray), .slice none 0 0, .slice none 0 0]) ?_ 4 _ rfl; (with_reducible repeat (first | refine blk_drewN ?_ _ | refine blk_drew ?_ | refine blk_alloc ?_ _)); refine blk_put (cs := #[.int .i64 4, .int .i64 a0, .int .i64 100, .int .i64 0, .int .i64 0, .int .i64 0, .string (⟨#[]⟩ : ByteArray), .slice none 0 0, .slice none 0 0]) ?_ 3 _ rfl; (with_reducible repeat (first | refine blk_drewN ?_ _ | refine blk_drew ?_ | refine blk_alloc ?_ _)); refine blk_put (cs := #[.int .i64 4, .int .i64 a0, .int .i64 0, .int .i64 0, .int .i64 0, .int .i64 0, .string (⟨#[]⟩ : ByteArray), .slice none 0 0, .slice none 0 0]) ?_ 2 _ rfl; (with_reducible repeat (first | refine blk_drewN ?_ _ | refine blk_drew ?_ | refine blk_alloc ?_ _)); refine blk_put (cs := #[.int .i64 4, .int .i64 0, .int .i64 0, .int .i64 0, .int .i64 0, .int .i64 0, .string (⟨#[]⟩ : ByteArray), .slice none 0 0, .slice none 0 0]) ?_ 1 _ rfl; (with_reducible repeat (first | refine blk_drewN ?_ _ | refine blk_drew ?_ | refine blk_alloc ?_ _)); refine blk_put (cs := #[.int .i64 0, .int .i64 0, .int .i64 0, .int .i64 0, .int .i64 0, .int .i64 0, .string (⟨#[]⟩ : ByteArray), .slice none 0 0, .slice none 0 0]) ?_ 0 _ rfl; (with_reducible repeat (first | refine blk_drewN ?_ _ | refine blk_drew ?_ | refine blk_alloc ?_ _)); exact BK113.out) Try.underlying34 rfl (by kernel_rfl)) rfl ?_
 exact ⟨_, _, by first | rfl | (simp [errW_none, errW_some] <;> rfl) | (simp [*, errW_none, errW_some] <;> rfl), by first | exact Kd.R_nil _ _ _ _ _ | exact Kd.N_nil _ _ _ _ _ | exact Kd.V_nil _ _ _ _ _ | exact Kd.Q_nil _ _ _ _ _ | exact Kd.S_nil _ _ _ _ _, by first | exact Kd.R_nil _ _ _ _ _ | exact Kd.N_nil _ _ _ _ _ | exact Kd.V_nil _ _ _ _ _ | exact Kd.Q_nil _ _ _ _ _ | exact Kd.S_nil _ _ _ _ _, by repeat (first | (with_reducible first | exact HB.out | apply below_alloc | apply pw_below_drewN | apply below_drew1 | refine below_set ?_ GE113.out) | exact HB.out)⟩

end Go.Proofs.Ytdecpagcaondiaa.Al
