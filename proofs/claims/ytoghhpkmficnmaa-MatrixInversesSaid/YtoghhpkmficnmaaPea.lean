/- What the laws stand on, in one text: functions of the program by their contracts, and the plain mathematics behind them (27 of them). -/
import Derived.Test.YtoghhpkmficnmaaProg
import Derived.Below
import Derived.Deep.Draws
import Derived.Deep.AppendLies
import Derived.Maps.AppendAt
import Derived.OwnWalk
import Derived.Laws.BytesArg
import Derived.Laws.MakeOwn
import Derived.Laws.OwnMore
import Derived.Deep.OwnRows
import Derived.Tactics
import Derived.Lib.ConvBytes
import Derived.Laws.Slices
import Derived.WalkKit
import Derived.KernelRfl
import Derived.RowKit3
import Derived.Deep.LoopGhost
import Derived.Deep.QuietTactic
import Derived.BigQuiet
import Derived.WideLaws
import Derived.Deep.DeepCutAuto
import Derived.Deep.CutBlock
import Derived.Deep.RegionHeld3
import Derived.Laws.Rows
import Derived.Lib.AppendStr
import Derived.ArgAppend
import Derived.Laws.IdiomCopy
import Derived.OrdersHeld
import Derived.Laws.BitsLemmas
import Derived.RowKit
import Derived.Test.YtoghhpkmficnmaaWWords
import Derived.Test.YtoghhpkmficnmaaWLast
import Derived.Test.YtoghhpkmficnmaaWTab
import Derived.Test.YtoghhpkmficnmaaWFour
import Derived.Test.YtoghhpkmficnmaaWQPut
import Derived.Test.YtoghhpkmficnmaaWApart
import Derived.Test.YtoghhpkmficnmaaWArr
import Derived.Test.YtoghhpkmficnmaaWZeros
import Derived.Test.YtoghhpkmficnmaaWFoot
import Derived.Test.YtoghhpkmficnmaaWKept
import Derived.Test.YtoghhpkmficnmaaWShare
import Derived.Test.YtoghhpkmficnmaaWN
import Derived.Test.YtoghhpkmficnmaaWFootNe
import Derived.Test.YtoghhpkmficnmaaWAt
import Derived.Test.YtoghhpkmficnmaaWEqStruct
import Derived.Test.YtoghhpkmficnmaaWRepsOne
import Derived.Test.YtoghhpkmficnmaaWInv
import Derived.Test.YtoghhpkmficnmaaWInvWords
import Derived.Test.YtoghhpkmficnmaaWGuard
import Derived.Test.YtoghhpkmficnmaaWNEv
import Derived.Test.YtoghhpkmficnmaaWMore
import Derived.Laws.BitsAllLaws
import Derived.Ground.SlbNamesProg
import Derived.Shelf.Bytes.SlJoin
import Derived.Test.YtoghhpkmficnmaaRows
import Derived.ChangeArms
import Derived.ChangeShapes
import Derived.SizedLaws

namespace Go.Proofs.Ytoghhpkmficnmaa.Al
open Go.RowKit Go.Proofs.YtoghhpkmficnmaaW.PrintWords Go.Proofs.YtoghhpkmficnmaaW.PrintLast Go.Proofs.YtoghhpkmficnmaaW.PrintMore
attribute [local go_sem] max2_int min2_int max_two min_two max_three min_three max_four min_four   -- for this text's walks alone
set_option linter.unusedVariables false
set_option linter.unusedSimpArgs false



def errW : Option Int → Value
  | none => .nilIface
  | some c => .iface 0 (.int .i64 c)
theorem errW_none : errW none = .nilIface := rfl
theorem errW_some (c : Int) : errW (some c) = .iface 0 (.int .i64 c) := rfl

theorem info3 : (Try.prog.info? 3).map (fun i => (i.zero, i.size, i.bytes)) = some (some (.int .i64 0), 1, 8) := by kernel_rfl
theorem info5 : (Try.prog.info? 5).map (fun i => (i.zero, i.size, i.bytes)) = some (some (.int .u8 0), 1, 1) := by kernel_rfl
theorem info9 : (Try.prog.info? 9).map (fun i => (i.zero, i.size, i.bytes)) = some (some (.string ⟨#[]⟩), 1, 16) := by kernel_rfl
theorem info54 : (Try.prog.info? 54).map (fun i => (i.zero, i.size, i.bytes)) = some (some (.slice none 0 0), 1, 24) := by kernel_rfl
-- the values' own types
def rd_L1 (xs : List (List Int)) (i : Int) : (List Int) := xs.getD i.toNat ([] : List Int)
theorem at_L1 {w : World} {A : Option Addr} {n : Nat} {xs : List (List Int)} (h : Kd.C (Kd.slice 5 (Kd.int .u8)) w A n xs) (i : Int) (h0 : 0 ≤ i) (h1 : i < n) : ∃ ad A0 c0, A = some ad ∧ w.cell? (ad.add i.toNat) = some (.slice A0 (rd_L1 xs i).length c0) ∧ (rd_L1 xs i).length ≤ c0 ∧ (Kd.int .u8).C w A0 (rd_L1 xs i).length (rd_L1 xs i) := by
  obtain ⟨ad, c, e, _, hK, hc0⟩ := Kd.C_get h ([] : List Int) i h0 h1
  have hc : ∀ j u, c[j]? = some u → w.cell? (ad.add (i.toNat * 1 + j)) = some u := hc0
  obtain ⟨A0, c0, rfl, l0, g0⟩ := hK
  exact ⟨ad, A0, c0, e, by have hq := hc 0 _ rfl; rwa [Nat.mul_one, Nat.add_zero] at hq, l0, g0⟩

theorem bne_nil_ (l : List UInt8) : (l != []) = !l.isEmpty := by cases l <;> rfl
end Go.Proofs.Ytoghhpkmficnmaa.Al

/- One function of the program comes to what its plain twin says. This text began as the kit's own print (print.py, made by cprint.sh) and was turned by split.py: it is no printed file. -/
namespace Go.Proofs.Ytoghhpkmficnmaa.Al
open Go.RowKit Go.Proofs.YtoghhpkmficnmaaW.PrintWords Go.Proofs.YtoghhpkmficnmaaW.PrintLast Go.Proofs.YtoghhpkmficnmaaW.PrintMore
attribute [local go_sem] max2_int min2_int max_two min_two max_three min_three max_four min_four   -- for this text's walks alone
set_option linter.unusedVariables false
set_option linter.unusedSimpArgs false


theorem eqA24 (d : Nat) (w : World) (x0 y0 : Int) (x1 y1 : Int) (x2 y2 : ByteArray) :
    (Op.equalIn (d + 2) 24 (.agg #[.int .i64 x0, .int .i64 x1, .string x2]) (.agg #[.int .i64 y0, .int .i64 y1, .string y2])).run Try.prog w = .ok (x0 == y0 && (x1 == y1 && (x2.toList == y2.toList))) w := by
  refine eqA_of Try.underlying24 (by kernel_rfl) ?_
  refine eqf_cons (by rfl) (by go_simp; rfl) (by go_simp; rfl) (by go_simp) ?_
  refine eqf_cons (by rfl) (by go_simp; rfl) (by go_simp; rfl) (by go_simp) ?_
  exact eqf_last (by rfl) (by go_simp; rfl) (by go_simp; rfl) (by go_simp)

end Go.Proofs.Ytoghhpkmficnmaa.Al

/- Plain lemmas on bytes, on wraps and on bits, without the program. -/
namespace Go.Proofs.Ytoghhpkmficnmaa.Base
open Go.RowKit Go.Proofs.YtoghhpkmficnmaaW.PrintWords

theorem Ev.pos {α : Type} {c : Prop} [Decidable c] {f g : Nat → Option α} {r : α} (h : c) (k : Ev f r) : Ev (fun n => if c then f n else g n) r := by
  simpa only [if_pos h] using k
theorem Ev.neg {α : Type} {c : Prop} [Decidable c] {f g : Nat → Option α} {r : α} (h : ¬ c) (k : Ev g r) : Ev (fun n => if c then f n else g n) r := by
  simpa only [if_neg h] using k
theorem Ev.some_bind {α β : Type} {a : α} {f : Nat → α → Option β} {r : β} (k : Ev (fun n => f n a) r) : Ev (fun n => (some a).bind (f n)) r := k

theorem wrap_id {n : Int} (h0 : -9223372036854775808 ≤ n) (h1 : n < 9223372036854775808) : wrap64 n = n := by
  unfold wrap64; omega

theorem ofInt_i64 (a : Nat) (ha : a < 9223372036854775808) : (BitVec.ofInt 64 (a : Int)).toNat = a := by
  rw [BitVec.ofInt_natCast, BitVec.toNat_ofNat]; exact Nat.mod_eq_of_lt (by omega)
theorem xor_i64_nat (a b : Nat) (ha : a < 9223372036854775808) (hb : b < 9223372036854775808) : Go.bits .xor .i64 (a : Int) (b : Int) = ((a ^^^ b : Nat) : Int) := by
  have hx : a ^^^ b < 2 ^ 63 := Nat.xor_lt_two_pow (by omega) (by omega)
  show IntKind.i64.wrap ((BitVec.ofInt 64 (a : Int) ^^^ BitVec.ofInt 64 (b : Int)).toNat : Int) = _
  rw [BitVec.toNat_xor, ofInt_i64 a ha, ofInt_i64 b hb, IntKind.wrap_i64]
  omega
theorem or_i64_nat (a b : Nat) (ha : a < 9223372036854775808) (hb : b < 9223372036854775808) : Go.bits .or .i64 (a : Int) (b : Int) = ((a ||| b : Nat) : Int) := by
  have hx : a ||| b < 2 ^ 63 := Nat.or_lt_two_pow (by omega) (by omega)
  show IntKind.i64.wrap ((BitVec.ofInt 64 (a : Int) ||| BitVec.ofInt 64 (b : Int)).toNat : Int) = _
  rw [BitVec.toNat_or, ofInt_i64 a ha, ofInt_i64 b hb, IntKind.wrap_i64]
  omega
theorem and_i64_nat (a b : Nat) (ha : a < 9223372036854775808) (hb : b < 9223372036854775808) : Go.bits .and .i64 (a : Int) (b : Int) = ((a &&& b : Nat) : Int) := by
  have hx : a &&& b < 2 ^ 63 := Nat.and_lt_two_pow _ (by omega)
  show IntKind.i64.wrap ((BitVec.ofInt 64 (a : Int) &&& BitVec.ofInt 64 (b : Int)).toNat : Int) = _
  rw [BitVec.toNat_and, ofInt_i64 a ha, ofInt_i64 b hb, IntKind.wrap_i64]
  omega

/-- A string's bytes. -/
def B (s : ByteArray) : List UInt8 := s.data.toList
theorem B_len (s : ByteArray) : (B s).length = s.size := data_length s
theorem B_inj {s t : ByteArray} (h : B s = B t) : s = t := by
  cases s; cases t; simp only [B] at h; simpa [Array.toList_inj] using h
theorem B_append (s t : ByteArray) : B (s ++ t) = B s ++ B t := by simp [B]
theorem B_nums (l : List Int) : B (strOfNums l) = l.map fun n => UInt8.ofNat n.toNat := rfl
theorem B_extract (s : ByteArray) (i j : Nat) : B (s.extract i j) = ((B s).take j).drop i := by
  simp [B, ByteArray.data_extract, List.extract_eq_take_drop, List.drop_take]
theorem B_empty : B (⟨#[]⟩ : ByteArray) = [] := rfl
theorem bt_B (s : ByteArray) (i : Nat) (h : i < (B s).length) : bt s (i : Int) = (((B s)[i]).toNat : Int) := by
  have h' : i < s.size := by rw [← B_len]; exact h
  unfold bt
  simp only [Int.toNat_natCast, h', dif_pos]
  rfl
theorem B_mk (l : List UInt8) : B ⟨l.toArray⟩ = l := by simp [B]
theorem toList_loop (s : ByteArray) : ∀ (d i : Nat) (r : List UInt8), s.size - i = d → ByteArray.toList.loop s i r = r.reverse ++ (B s).drop i
  | 0, i, r, h => by
    unfold ByteArray.toList.loop
    rw [if_neg (by omega), List.drop_of_length_le (by rw [B_len]; omega), List.append_nil]
  | d + 1, i, r, h => by
    have hi : i < s.size := by omega
    unfold ByteArray.toList.loop
    rw [if_pos hi, toList_loop s d (i + 1) _ (by omega)]
    have e : (B s).drop i = s.get! i :: (B s).drop (i + 1) := by
      rw [List.drop_eq_getElem_cons (by rw [B_len]; exact hi)]
      congr 1
      simp [B, ByteArray.get!, hi]
    rw [e]
    simp
theorem toList_eq (s : ByteArray) : s.toList = B s := by
  unfold ByteArray.toList
  rw [toList_loop s _ 0 [] rfl]
  simp
end Go.Proofs.Ytoghhpkmficnmaa.Base

/- A block of bytes of the call's own, a conversion's or a make's: what stands in it, what a store leaves, the text that it makes. -/
namespace Go.Proofs.Ytoghhpkmficnmaa.Bytes
open Go.RowKit Go.Proofs.Ytoghhpkmficnmaa.Base Go.Proofs.YtoghhpkmficnmaaW.PrintWords
/-- Block g holds n bytes: the i-th is f i. -/
def Bc (w : World) (g n : Nat) (f : Nat → Int) : Prop := ∃ (cs : Array Value) (e : TypeId) (fr : Nat × Nat), w.heap[g]? = some (.cells cs e fr) ∧ (∀ j, j < n → cs[j]? = some (.int .u8 (f j))) ∧ (∀ j, j < n → ¬ (fr.1 ≤ j ∧ j < fr.2))
variable {w : World} {g n : Nat} {f : Nat → Int}
theorem Bc.cell (h : Bc w g n f) {j : Nat} (hj : j < n) : w.cell? ⟨g, j, none⟩ = some (.int .u8 (f j)) := by
  obtain ⟨cs, e, fr, h1, h2, _⟩ := h
  rw [cell_of_row w g j cs e fr h1]
  exact h2 j hj
theorem Bc.frozen (h : Bc w g n f) {j : Nat} (hj : j < n) : w.frozen? ⟨g, j, none⟩ = false := by
  obtain ⟨cs, e, fr, h1, _, h3⟩ := h
  have := h3 j hj
  simp only [World.frozen?, h1]
  simp
  omega
theorem Bc.set (h : Bc w g n f) {j : Nat} (hj : j < n) (v : Int) : Bc (w.setCell ⟨g, j, none⟩ (.int .u8 v)) g n (fun i => if i = j then v else f i) := by
  obtain ⟨cs, e, fr, h1, h2, h3⟩ := h
  have hlt : j < cs.size := (Array.getElem?_eq_some_iff.1 (h2 j hj)).1
  refine ⟨cs.setIfInBounds j (.int .u8 v), e, fr, ?_, fun i hi => ?_, h3⟩
  · simp [World.setCell, Array.getElem?_modify, h1]
  · by_cases he : i = j
    · subst he
      rw [Array.getElem?_setIfInBounds_self_of_lt hlt]
      simp
    · rw [Array.getElem?_setIfInBounds_ne (Ne.symm he)]
      simp only [if_neg he]
      exact h2 i hi
theorem Bc.keep {w1 : World} (h : Bc w g n f) (hk : w1.heap[g]? = w.heap[g]?) : Bc w1 g n f := by
  obtain ⟨cs, e, fr, h1, h2, h3⟩ := h
  exact ⟨cs, e, fr, hk.trans h1, h2, h3⟩
theorem Bc.lt (h : Bc w g n f) : g < w.heap.size := by
  obtain ⟨cs, e, fr, h1, _⟩ := h
  exact (Array.getElem?_eq_some_iff.1 h1).1
theorem Bc.below {w1 : World} (h : Bc w g n f) (hb : Below w.heap.size w w1) : Bc w1 g n f := h.keep (hb.block g h.lt)
theorem Bc.drewN (h : Bc w g n f) (m : Nat) : Bc (w.drewN m) g n f := h.keep rfl
theorem Bc.congr {f' : Nat → Int} (h : Bc w g n f) (he : ∀ j, j < n → f j = f' j) : Bc w g n f' := by
  obtain ⟨cs, e, fr, h1, h2, h3⟩ := h
  exact ⟨cs, e, fr, h1, fun j hj => by rw [← he j hj]; exact h2 j hj, h3⟩
theorem Bc.far (h : Bc w g n f) {p : Addr} (hp : g ≠ p.block) (u : Value) : Bc (w.setCell p u) g n f := h.keep (Below.heap_setCell w p u g hp)
/-- []byte(s). -/
theorem bc_conv (w : World) (e : TypeId) (s : ByteArray) : Bc (Lib.bytesWorld w e s) w.heap.size s.size (fun j => bt s j) := by
  refine ⟨Lib.bytesCells w e s, e, _, Lib.bytesWorld_at_new w e s, fun j hj => ?_, fun j hj => ?_⟩
  · have h1 : j < (Lib.bytesCells w e s).size := by
      have : s.data.size = s.size := rfl
      simp [Lib.bytesCells]; omega
    have hd : j < s.data.size := hj
    rw [Array.getElem?_eq_getElem h1]
    simp only [Lib.bytesCells]
    rw [Array.getElem_append_left (by simpa using hd), Array.getElem_map]
    congr 2
    unfold bt
    simp only [Int.toNat_natCast, hj, dif_pos]
    first | done | rfl
  · have : s.size ≤ (Lib.bytesCells w e s).size := by
      have : s.data.size = s.size := rfl
      simp [Lib.bytesCells]
    simp only
    omega
/-- make([]byte, n). -/
theorem bc_lit (w : World) (e : TypeId) (cs : Array Value) (n : Nat) (h : ∀ j, j < n → cs[j]? = some (.int .u8 0)) : Bc (w.alloc (.cells cs e)) w.heap.size n (fun _ => 0) :=
  ⟨cs, e, (0, 0), heap_alloc_new w _, h, fun j _ hc => by omega⟩
theorem made_get (z : Value) (n j : Nat) (h : j < n) : (madeCells #[z] n)[j]? = some z := by simp [madeCells, h, Nat.mod_one]
def listOf (n : Nat) (f : Nat → Int) : List Int := (List.range n).map f
theorem listOf_length (n : Nat) (f : Nat → Int) : (listOf n f).length = n := by simp [listOf]
theorem listOf_get (n : Nat) (f : Nat → Int) (i : Nat) (h : i < n) : (listOf n f)[i]? = some (f i) := by simp [listOf, h]
theorem rd_listOf (n : Nat) (f : Nat → Int) (i : Nat) (h : i < n) : rd (listOf n f) i = f i := by simp [rd, List.getD_eq_getElem?_getD, listOf_get n f i h]
theorem Bc.reads (h : Bc w g n f) (hn : n ≤ 9223372036854775807) : ReadsInt w .u8 (some ⟨g, 0, none⟩) n (listOf n f) := by
  refine ⟨listOf_length n f, hn, fun _ => ⟨_, rfl, fun j hj => ?_⟩⟩
  rw [add_plain, h.cell hj]
  simp [List.getD_eq_getElem?_getD, listOf_get n f j hj]
theorem Bc.string {P : Program} {src dst e : TypeId} {c : Nat} (hs : P.underlying src = some (.slice e)) (he : P.underlying e = some (.int .u8)) (hd : P.underlying dst = some .string) (h : Bc w g n f) (hn : n ≤ 9223372036854775807) :
    (convert src dst (.slice (some ⟨g, 0, none⟩) n c)).run P w = .ok (.string (strOfNums (listOf n f))) w := string_of_reads hs he hd (h.reads hn)
theorem listOf_congr {n : Nat} {f f' : Nat → Int} (h : ∀ i, i < n → f i = f' i) : listOf n f = listOf n f' := by
  unfold listOf
  apply List.map_congr_left
  intro i hi
  exact h i (by simpa using hi)
end Go.Proofs.Ytoghhpkmficnmaa.Bytes

/- A matrix that is worked on: rows of bytes of the call's own, and the row of those rows. -/
namespace Go.Proofs.Ytoghhpkmficnmaa.Grid
open Go.RowKit Go.Proofs.Ytoghhpkmficnmaa.Base Go.Proofs.Ytoghhpkmficnmaa.Bytes Go.Proofs.YtoghhpkmficnmaaW.PrintWords
/-- Block g (of bytes) holds n of them: the i-th is f i. -/
def Br (w : World) (g n : Nat) (f : Nat → Int) : Prop := ∃ (cs : Array Value) (fr : Nat × Nat), w.heap[g]? = some (.cells cs 5 fr) ∧ (∀ j, j < n → cs[j]? = some (.int .u8 (f j))) ∧ (∀ j, j < n → ¬ (fr.1 ≤ j ∧ j < fr.2))
section
variable {w : World} {g n : Nat} {f : Nat → Int}
theorem Br.bc (h : Br w g n f) : Bc w g n f := by obtain ⟨cs, fr, h1, h2, h3⟩ := h; exact ⟨cs, 5, fr, h1, h2, h3⟩
theorem Br.cell (h : Br w g n f) {j : Nat} (hj : j < n) : w.cell? ⟨g, j, none⟩ = some (.int .u8 (f j)) := h.bc.cell hj
theorem Br.frozen (h : Br w g n f) {j : Nat} (hj : j < n) : w.frozen? ⟨g, j, none⟩ = false := h.bc.frozen hj
theorem Br.set (h : Br w g n f) {j : Nat} (hj : j < n) (v : Int) : Br (w.setCell ⟨g, j, none⟩ (.int .u8 v)) g n (fun i => if i = j then v else f i) := by
  obtain ⟨cs, fr, h1, h2, h3⟩ := h
  have hlt : j < cs.size := (Array.getElem?_eq_some_iff.1 (h2 j hj)).1
  refine ⟨cs.setIfInBounds j (.int .u8 v), fr, ?_, fun i hi => ?_, h3⟩
  · simp [World.setCell, Array.getElem?_modify, h1]
  · by_cases he : i = j
    · subst he
      rw [Array.getElem?_setIfInBounds_self_of_lt hlt]
      simp
    · rw [Array.getElem?_setIfInBounds_ne (Ne.symm he)]
      simp only [if_neg he]
      exact h2 i hi
theorem Br.keep {w1 : World} (h : Br w g n f) (hk : w1.heap[g]? = w.heap[g]?) : Br w1 g n f := by
  obtain ⟨cs, fr, h1, h2, h3⟩ := h
  exact ⟨cs, fr, hk.trans h1, h2, h3⟩
theorem Br.lt (h : Br w g n f) : g < w.heap.size := h.bc.lt
theorem Br.below {w1 : World} (h : Br w g n f) (hb : Below w.heap.size w w1) : Br w1 g n f := h.keep (hb.block g h.lt)
theorem Br.congr {f' : Nat → Int} (h : Br w g n f) (he : ∀ j, j < n → f j = f' j) : Br w g n f' := by
  obtain ⟨cs, fr, h1, h2, h3⟩ := h
  exact ⟨cs, fr, h1, fun j hj => by rw [← he j hj]; exact h2 j hj, h3⟩
theorem Br.ne {g' : Nat} {cs : Array Value} {t : TypeId} {fr : Nat × Nat} (h : Br w g n f) (h' : w.heap[g']? = some (.cells cs t fr)) (ht : t ≠ 5) : g ≠ g' := by
  rintro rfl
  obtain ⟨cs', fr', h1, _⟩ := h
  rw [h1] at h'
  injection h' with h'
  injection h' with _ h' _
  exact ht h'.symm
end
theorem br_conv (w : World) (s : ByteArray) : Br (Lib.bytesWorld w 5 s) w.heap.size s.size (fun j => bt s j) := by
  obtain ⟨cs, e, fr, h1, h2, h3⟩ := bc_conv w 5 s
  have : e = 5 := by
    have := Lib.bytesWorld_at_new w 5 s
    rw [this] at h1
    injection h1 with h1
    injection h1 with _ h1 _
    exact h1.symm
  subst this
  exact ⟨cs, fr, h1, h2, h3⟩
theorem br_lit (w : World) (cs : Array Value) (n : Nat) (h : ∀ j, j < n → cs[j]? = some (.int .u8 0)) : Br (w.alloc (.cells cs 5)) w.heap.size n (fun _ => 0) :=
  ⟨cs, (0, 0), heap_alloc_new w _, h, fun j _ hc => by omega⟩
/-- A row in its place: its block and its room, or none yet. -/
def rowV (m : Nat) : Option (Nat × Nat) → Value
  | none => .slice none 0 0
  | some p => .slice (some ⟨p.1, 0, none⟩) m p.2
def kG (m : Nat) : Kd (Option (Nat × Nat)) := Kd.scalar (rowV m) (fun x => by cases x <;> rfl)
/-- The rows rs (m bytes each), under the row of rows v. -/
structure Grid (B : Nat) (W : World) (v : Value) (m : Nat) (os : List (Option (Nat × Nat))) (rs : List (Nat × Nat)) (f : Nat → Nat → Int) : Prop where
  out : (kG m).R 54 W B (fun _ => True) v os
  row : ∀ i p, rs[i]? = some p → Br W p.1 m (f i) ∧ B ≤ p.1
  nd : (rs.map (·.1)).Nodup
section
variable {B : Nat} {W W1 : World} {v : Value} {m : Nat} {os : List (Option (Nat × Nat))} {rs : List (Nat × Nat)} {f : Nat → Nat → Int}
theorem Grid.below (h : Grid B W v m os rs f) (hb : Below W.heap.size W W1) : Grid B W1 v m os rs f := ⟨Kd.R_below h.out hb, fun i p hp => ⟨(h.row i p hp).1.below hb, (h.row i p hp).2⟩, h.nd⟩
theorem Grid.alloc (h : Grid B W v m os rs f) (o : Obj) : Grid B (W.alloc o) v m os rs f := h.below (below_alloc (Below.refl _ _) o)
theorem Grid.drewN (h : Grid B W v m os rs f) (n : Nat) : Grid B (W.drewN n) v m os rs f := h.below (pw_below_drewN (Below.refl _ _) n)
theorem Grid.lower {B' : Nat} (h : Grid B W v m os rs f) (hb : B' ≤ B) : Grid B' W v m os rs f := ⟨Kd.R_lower h.out hb, fun i p hp => ⟨(h.row i p hp).1, Nat.le_trans hb (h.row i p hp).2⟩, h.nd⟩
theorem Grid.congr {f' : Nat → Nat → Int} (h : Grid B W v m os rs f) (he : ∀ i j, i < rs.length → j < m → f i j = f' i j) : Grid B W v m os rs f' :=
  ⟨h.out, fun i p hp => ⟨(h.row i p hp).1.congr fun j hj => he i j (List.getElem?_eq_some_iff.1 hp).1 hj, (h.row i p hp).2⟩, h.nd⟩
theorem Grid.slice (h : Grid B W v m os rs f) : ∃ A c, v = .slice A os.length c := Kd.R_slice h.out
theorem Grid.form (h : Grid B W v m os rs f) (hp : 0 < os.length) : ∃ g cap, v = .slice (some ⟨g, 0, none⟩) os.length cap ∧ B ≤ g ∧ g < W.heap.size ∧ ∃ cells, W.heap[g]? = some (.cells cells 54 (0, 0)) := Kd.R_form h.out hp
theorem Grid.outer {g cap n : Nat} (h : Grid B W (.slice (some ⟨g, 0, none⟩) n cap) m os rs f) {i : Nat} (hi : i < n) : W.cell? ⟨g, i, none⟩ = some (rowV m (os.getD i none)) ∧ W.frozen? ⟨g, i, none⟩ = false := by
  have := Kd.R_celln none h.out (i : Int) (by omega) (by omega)
  rw [Int.toNat_natCast] at this
  exact this
/-- A store into one row's cell. -/
theorem Grid.set {i j : Nat} {p : Nat × Nat} (h : Grid B W v m os rs f) (hi : rs[i]? = some p) (hj : j < m) (x : Int) :
    Grid B (W.setCell ⟨p.1, j, none⟩ (.int .u8 x)) v m os rs (fun a b => if a = i ∧ b = j then x else f a b) := by
  have hb := (h.row i p hi).1
  refine ⟨?_, fun a q hq => ?_, h.nd⟩
  · obtain ⟨cs, fr, h1, _, _⟩ := hb
    refine Kd.R_mono (Kd.R_far (p := ⟨p.1, j, none⟩) (Kd.R_mono (ok' := fun k => k ≠ p.1) (Kd.R_bound h.out) (fun k hk => ?_)) (fun _ hk => hk) _) (fun _ _ => trivial)
    obtain ⟨_, _, _, q, hq, cells, hc⟩ := hk
    rintro rfl
    have hq' : q = 54 := by simpa [kG, Kd.scalar] using hq
    subst hq'
    rw [hc] at h1
    injection h1 with h1
    injection h1 with _ h1 _
    exact absurd h1 (by decide)
  · by_cases e : a = i
    · subst e
      rw [hi] at hq
      obtain rfl := Option.some.inj hq
      refine ⟨(hb.set hj x).congr fun b _ => ?_, (h.row a _ hi).2⟩
      simp
    · have hne : q.1 ≠ p.1 := by
        intro hc
        obtain ⟨la, ea⟩ := List.getElem?_eq_some_iff.1 hq
        obtain ⟨li, ei⟩ := List.getElem?_eq_some_iff.1 hi
        have := (List.getElem_inj (i := a) (j := i) (h₀ := by simpa using la) (h₁ := by simpa using li) h.nd).1 (by simp [ea, ei, hc])
        exact e this
      refine ⟨((h.row a q hq).1.keep (Below.heap_setCell W ⟨p.1, j, none⟩ _ q.1 hne)).congr fun b _ => ?_, (h.row a q hq).2⟩
      rw [if_neg (fun hc => e hc.1)]
end
/-- The rows that are there, and places for the others. -/
def gpart (rs : List (Nat × Nat)) (n : Nat) : List (Option (Nat × Nat)) := rs.map some ++ List.replicate (n - rs.length) none
theorem gpart_nil (n : Nat) : gpart [] n = List.replicate n none := by simp [gpart]
theorem gpart_full {rs : List (Nat × Nat)} {n : Nat} (h : rs.length = n) : gpart rs n = rs.map some := by simp [gpart, h]
theorem gpart_len {rs : List (Nat × Nat)} {n : Nat} (h : rs.length ≤ n) : (gpart rs n).length = n := by simp [gpart]; omega
theorem gpart_set {rs : List (Nat × Nat)} {n : Nat} (h : rs.length < n) (p : Nat × Nat) : (gpart rs n).set rs.length (some p) = gpart (rs ++ [p]) n := by
  unfold gpart
  rw [List.set_append_right _ _ (by simp), List.length_map, Nat.sub_self]
  obtain ⟨k, hk⟩ : ∃ k, n - rs.length = k + 1 := ⟨n - rs.length - 1, by omega⟩
  rw [hk, List.replicate_succ, List.set_cons_zero]
  simp only [List.map_append, List.map_cons, List.map_nil, List.length_append, List.length_singleton, List.append_assoc, List.singleton_append]
  rw [show n - (rs.length + 1) = k by omega]
/-- A new row behind those that are there. -/
theorem Grid.next {B : Nat} {W : World} {v : Value} {m : Nat} {os os' : List (Option (Nat × Nat))} {rs : List (Nat × Nat)} {f : Nat → Nat → Int} {g : Nat} {h : Nat → Int} (hG : Grid B W v m os rs f) (hlt : ∀ (i : Nat) (p : Nat × Nat), rs[i]? = some p → p.1 < g) (hb : Br W g m h) (hB : B ≤ g) (hR : (kG m).R 54 W B (fun _ => True) v os') (c : Nat) :
    Grid B W v m os' (rs ++ [(g, c)]) (fun i j => if i = rs.length then h j else f i j) := by
  refine ⟨hR, fun i p hp => ?_, ?_⟩
  · by_cases hi : i < rs.length
    · rw [List.getElem?_append_left hi] at hp
      obtain ⟨h1, h2⟩ := hG.row i p hp
      exact ⟨h1.congr fun j _ => by rw [if_neg (by omega)], h2⟩
    · have hl := (List.getElem?_eq_some_iff.1 hp).1
      simp at hl
      obtain rfl : i = rs.length := by omega
      rw [List.getElem?_append_right (Nat.le_refl _), Nat.sub_self] at hp
      obtain rfl : (g, c) = p := by simpa using hp
      exact ⟨hb.congr fun j _ => by rw [if_pos rfl], hB⟩
  · rw [List.map_append, List.nodup_append]
    refine ⟨hG.nd, by simp, ?_⟩
    intro a ha b hb'
    obtain ⟨p, hp, rfl⟩ := List.mem_map.1 ha
    obtain ⟨i, hi⟩ := List.mem_iff_getElem?.1 hp
    simp at hb'
    subst hb'
    have := hlt i p hi
    omega
/-- A new row is put into its place. -/
theorem Grid.put {B : Nat} {W : World} {g0 n cap0 : Nat} {m : Nat} {os : List (Option (Nat × Nat))} {rs : List (Nat × Nat)} {f : Nat → Nat → Int} {g : Nat} {h : Nat → Int} (hG : Grid B W (.slice (some ⟨g0, 0, none⟩) n cap0) m os rs f) (hlt : ∀ (i : Nat) (p : Nat × Nat), rs[i]? = some p → p.1 < g) (hb : Br W g m h) (hB : B ≤ g) (i c : Nat) :
    Grid B (W.setCell ⟨g0, i, none⟩ (.slice (some ⟨g, 0, none⟩) m c)) (.slice (some ⟨g0, 0, none⟩) n cap0) m (os.set i (some (g, c))) (rs ++ [(g, c)]) (fun a b => if a = rs.length then h b else f a b) := by
  have hR := Kd.R_putn hG.out (i : Int) (some (g, c))
  rw [Int.toNat_natCast] at hR
  obtain ⟨cells, hc⟩ := Kd.R_typed hG.out g0 (by simp [Value.ownBlock])
  have far : ∀ {g' : Nat} {f' : Nat → Int}, Br W g' m f' → Br (W.setCell ⟨g0, i, none⟩ (.slice (some ⟨g, 0, none⟩) m c)) g' m f' := fun hb => hb.keep (Below.heap_setCell W ⟨g0, i, none⟩ _ _ (hb.ne hc (by decide)))
  have hG1 : Grid B (W.setCell ⟨g0, i, none⟩ (.slice (some ⟨g, 0, none⟩) m c)) (.slice (some ⟨g0, 0, none⟩) n cap0) m (os.set i (some (g, c))) rs f := ⟨hR, fun a p hp => ⟨far (hG.row a p hp).1, (hG.row a p hp).2⟩, hG.nd⟩
  exact hG1.next hlt (far hb) hB hR c
theorem bt_extract (s : ByteArray) (a n : Nat) (h : a + n ≤ s.size) (j : Nat) (hj : j < n) : bt (s.extract a (a + n)) (j : Int) = bt s ((a + j : Nat) : Int) := by
  have h1 : j < (B (s.extract a (a + n))).length := by rw [B_extract]; simp [B_len]; omega
  have h2 : a + j < (B s).length := by rw [B_len]; omega
  rw [bt_B _ j h1, bt_B _ (a + j) h2]
  congr 2
  simp [B_extract]
theorem Grid.lt {B : Nat} {W : World} {v : Value} {m : Nat} {os : List (Option (Nat × Nat))} {rs : List (Nat × Nat)} {f : Nat → Nat → Int} (h : Grid B W v m os rs f) : ∀ (i : Nat) (p : Nat × Nat), rs[i]? = some p → p.1 < W.heap.size := fun i p hp => (h.row i p hp).1.lt
theorem Grid.blk {B : Nat} {W W1 : World} {v : Value} {m : Nat} {os : List (Option (Nat × Nat))} {rs : List (Nat × Nat)} {f : Nat → Nat → Int} (h : Grid B W v m os rs f) {g t : Nat} {cs : Array Value} (hk : W.heap[g]? = some (.cells cs t (0, 0))) (ht : 54 ≠ t) (hg : W.grownBy W1 v.ownBlock) : W1.heap[g]? = some (.cells cs t (0, 0)) :=
  blk_grown hk hg (Kd.R_ne h.out hk ht)
/-- A new row behind the others. -/
theorem Grid.append {B : Nat} {W W1 : World} {v v1 : Value} {m : Nat} {rs : List (Nat × Nat)} {f : Nat → Nat → Int} {g c : Nat} {h : Nat → Int} (hG : Grid B W v m (rs.map some) rs f) (hlt : ∀ (i : Nat) (p : Nat × Nat), rs[i]? = some p → p.1 < g) (hb : Br W g m h) (hB : B ≤ g)
    (hR : (kG m).R 54 W1 B (fun _ => True) v1 (rs.map some ++ [some (g, c)])) (hg : W.grownBy W1 v.ownBlock) :
    Grid B W1 v1 m ((rs ++ [(g, c)]).map some) (rs ++ [(g, c)]) (fun a b => if a = rs.length then h b else f a b) := by
  have far : ∀ {g' : Nat} {f' : Nat → Int}, Br W g' m f' → Br W1 g' m f' := fun hb => hb.keep (hg.block _ hb.lt (fun he => by
    obtain ⟨cells, hc⟩ := Kd.R_typed hG.out _ he.symm
    exact hb.ne hc (by decide) rfl))
  have hR' : (kG m).R 54 W1 B (fun _ => True) v1 ((rs ++ [(g, c)]).map some) := by simpa using hR
  have hG1 : Grid B W1 v1 m ((rs ++ [(g, c)]).map some) rs f := ⟨hR', fun a p hp => ⟨far (hG.row a p hp).1, (hG.row a p hp).2⟩, hG.nd⟩
  exact hG1.next hlt (far hb) hB hR' c
end Go.Proofs.Ytoghhpkmficnmaa.Grid

/- bytes.Join by its contracts at this dump: laid by the tools of the kit (lay-shelf.mjs, lay-plain.mjs). -/
namespace Go.Proofs
open Go.Shelf
def Try.laysSlJ14_ren : Go.Shelf.Ren := ⟨fun | 14 => 45 | 15 => 47 | n => n, fun | 26 => 51 | 22 => 54 | 3 => 3 | 4 => 4 | 0 => 0 | 9 => 9 | 20 => 20 | 5 => 5 | n => n, fun | n => n⟩
theorem Try.laysSlJ14 : Go.Proofs.SlLaysJ.n14 Try.prog Try.laysSlJ14_ren := {
  mixed := by kernel_rfl
  f14 := Try.func45.trans (congrArg some (by kernel_rfl))
  f15 := Try.func47.trans (congrArg some (by kernel_rfl))
  t0 := Try.underlying0
  a0 := Try.isAgg0
  z0 := Try.sizeOf0
  v0 := Try.zeroValue0
  t3 := Try.underlying3
  a3 := Try.isAgg3
  z3 := Try.sizeOf3
  v3 := Try.zeroValue3
  t4 := Try.underlying4
  a4 := Try.isAgg4
  z4 := Try.sizeOf4
  v4 := Try.zeroValue4
  t9 := Try.underlying9
  a9 := Try.isAgg9
  z9 := Try.sizeOf9
  v9 := Try.zeroValue9
  t20 := Try.underlying20
  a20 := Try.isAgg20
  z20 := Try.sizeOf20
  v20 := Try.zeroValue20
  t22 := Try.underlying54
  a22 := Try.isAgg54
  z22 := Try.sizeOf54
  v22 := Try.zeroValue54
  t26 := Try.underlying51
  a26 := Try.isAgg51
  z26 := Try.sizeOf51
  v26 := Try.zeroValue51
  t5 := Try.underlying5
  z5 := Try.sizeOf5
  i5 := by kernel_rfl }
open Go.RowKit Go.Lib in
theorem Try.bytes_Join_many (b o n c : Nat) (vs : List Value) (ls : List (List UInt8)) (sv : Value) (sep : List UInt8) (w : World) (hn : ls.length = n) (h2 : 2 ≤ n) (hP : Lib.PartsAt w ⟨b, o, none⟩ vs ls) (hcap : n ≤ c) (hS : Lib.HoldsBytes w sv sep) (hn47 : n ≤ 140737488355328) (hlen : Lib.lens ls + sep.length * (n - 1) ≤ 140737488355328) :
    Calls Try.prog 45 #[.slice (some ⟨b, o, none⟩) n c, sv] w fun e w' => ∃ v', e = .returned v' ∧ Lib.FreshBytes w.heap.size w' v' (Lib.join ls sep) ∧ Below w.heap.size w w' := Any.bytes_Join_many Try.laysSlJ14 b o n c vs ls sv sep w hn h2 hP hcap hS hn47 hlen
open Go.RowKit Go.Lib in
/-- bytes.Join of no part (nil too): '[]byte{}': a slice of no byte THAT IS NOT nil, at the head of a new, empty row. (LAID: no walk: one application.) -/
theorem Try.bytes_Join_none (p : Option Addr) (c : Nat) (sv : Value) (w : World) :
    Calls Try.prog 45 #[.slice p 0 c, sv] w fun e w' => e = .returned (.slice (some ⟨w.heap.size, 0, none⟩) 0 0) ∧ w' = w.alloc (.cells #[] 5) := Any.bytes_Join_none Try.laysSlJ14 p c sv w
open Go.RowKit Go.Lib in
/-- bytes.Join of ONE part, of one byte or more: 'append([]byte(nil), s[0]...)': a new []byte of its bytes; sep is not looked at. (LAID: no walk: one application.) -/
theorem Try.bytes_Join_one (b o c : Nat) (ad0 : Addr) (c0 : Nat) (l0 : List UInt8) (sv : Value) (w : World) (hcell : w.cell? ⟨b, o, none⟩ = some (.slice (some ad0) l0.length c0)) (hc : ∀ (i : Nat) x, l0[i]? = some x → w.cell? (ad0.add i) = some (.int .u8 (x.toNat : Int))) (h0 : 0 < l0.length) (hs : l0.length ≤ 140737488355328) :
    Calls Try.prog 45 #[.slice (some ⟨b, o, none⟩) 1 c, sv] w fun e w' => ∃ v', e = .returned v' ∧ Lib.FreshBytes w.heap.size w' v' l0 ∧ Below w.heap.size w w' := Any.bytes_Join_one Try.laysSlJ14 b o c ad0 c0 l0 sv w hcell hc h0 hs
open Go.RowKit Go.Lib in
/-- bytes.Join of ONE part of no byte (nil or not): 'append([]byte(nil), s[0]...)' IS nil; the world is as it was. (LAID: no walk: one application.) -/
theorem Try.bytes_Join_one_empty (b o c : Nat) (p0 : Option Addr) (c0 : Nat) (sv : Value) (w : World) (hcell : w.cell? ⟨b, o, none⟩ = some (.slice p0 0 c0)) :
    Calls Try.prog 45 #[.slice (some ⟨b, o, none⟩) 1 c, sv] w fun e w' => e = .returned (.slice none 0 0) ∧ w' = w := Any.bytes_Join_one_empty Try.laysSlJ14 b o c p0 c0 sv w hcell
end Go.Proofs

/- An argument of any shape that is read: what the walk's contracts ask of it, and its bounds by the row's own reach and by the second form's bulk. -/
namespace Go.Proofs.Ytoghhpkmficnmaa.Open
open Go.RowKit Go.Proofs.YtoghhpkmficnmaaW.PrintWords

/-- Whatever reads as data of type t is told by d: V always, L where each string and slice is within the reach, m is within the bulk. -/
structure Opens {α : Type} (P : Program) (t : TypeId) (d : Kd α) (V L : α → Prop) (m : α → Nat) : Prop where
  out : ∀ {H : Type} {enc : TypeId × Value → H} {w : World} {base : Nat} {spare : Nat → Bool} {held : Bool} {fuel : Nat} {cs : List Value} {x : DataW H × List MemPlace}, DataW.trod enc P w base spare held fuel t cs = some x →
    ∃ a : α, d.K w a cs ∧ V a ∧ ((DataW.weights P t x.1).all (· ≤ reachBytes) = true → L a) ∧ m a ≤ Rows.uptoBulk x.1

theorem opens_int {P : Program} {t : TypeId} {k : IntKind} (ht : P.underlying t = some (.int k)) : Opens P t (Kd.int k) (fun n => (Lit.int k n).wf = true) (fun _ => True) (fun _ => 1) where
  out h := by
    obtain ⟨n, rfl, rfl, hw⟩ := DataW.trod_int ht h
    exact ⟨n, rfl, hw, fun _ => trivial, Nat.le_refl _⟩
theorem opens_bool {P : Program} {t : TypeId} (ht : P.underlying t = some .bool) : Opens P t Kd.bool (fun _ => True) (fun _ => True) (fun _ => 1) where
  out h := by
    obtain ⟨n, rfl, rfl⟩ := DataW.trod_bool ht h
    exact ⟨n, rfl, trivial, fun _ => trivial, Nat.le_refl _⟩
theorem opens_string {P : Program} {t : TypeId} (ht : P.underlying t = some .string) : Opens P t Kd.string (fun s => s.size ≤ maxLen) (fun s => s.size ≤ 140737488351232) (fun s => s.size + 1) where
  out h := by
    obtain ⟨s, rfl, rfl, hw⟩ := DataW.trod_string ht h
    refine ⟨s, rfl, hw, fun hx => ?_, ?_⟩
    · simp only [DataW.weights, List.all_cons, List.all_nil, Bool.and_true, decide_eq_true_eq, data_length] at hx
      exact hx
    · simp [Rows.uptoBulk]

theorem add_add (a : Addr) (m j : Nat) : (a.add m).add j = a.add (m + j) := by
  unfold Addr.add
  by_cases hm : m = 0 <;> by_cases hj : j = 0 <;> simp [hm, hj, Nat.add_assoc]
theorem mapM_some {β γ : Type} {f : β → Option γ} : ∀ {l : List β} {r : List γ}, l.mapM f = some r → r.length = l.length ∧ ∀ i (h : i < l.length), f l[i] = r[i]?
  | [], r, h => by simp at h; subst h; simp
  | b :: l, r, h => by
    rw [List.mapM_cons] at h
    simp only [Option.bind_eq_bind, Option.bind_eq_some_iff, Option.pure_def, Option.some.injEq] at h
    obtain ⟨c, hc, q, hq, rfl⟩ := h
    obtain ⟨hl, hi⟩ := mapM_some hq
    refine ⟨by simp [hl], fun i h => ?_⟩
    cases i with
    | zero => simpa using hc
    | succ i => simpa using hi i (by simpa using h)
theorem cells_get {w : World} {base : Nat} {a : Addr} {n : Nat} {cs : List Value} (h : w.cells? base a n = some cs) : cs.length = n ∧ ∀ i u, cs[i]? = some u → w.cell? (a.add i) = some u := by
  unfold World.cells? at h
  split at h
  · obtain ⟨hl, hi⟩ := mapM_some h
    simp at hl
    refine ⟨hl, fun i u hu => ?_⟩
    have hlt : i < cs.length := (List.getElem?_eq_some_iff.1 hu).1
    have := hi i (by simp; omega)
    simpa [hu] using this
  · cases h

theorem list_of {α : Type} {Q : Nat → α → Prop} : ∀ n, (∀ i, i < n → ∃ a, Q i a) → ∃ l : List α, l.length = n ∧ ∀ i a, l[i]? = some a → Q i a
  | 0, _ => ⟨[], rfl, fun i a h => by simp at h⟩
  | n + 1, h => by
    obtain ⟨l, hl, hq⟩ := list_of n (fun i hi => h i (by omega))
    obtain ⟨a, ha⟩ := h n (by omega)
    refine ⟨l ++ [a], by simp [hl], fun i b hb => ?_⟩
    by_cases hi : i < n
    · rw [List.getElem?_append_left (by omega)] at hb
      exact hq i b hb
    · have hlt := (List.getElem?_eq_some_iff.1 hb).1
      simp at hlt
      obtain rfl : i = n := by omega
      rw [List.getElem?_append_right (by omega), hl] at hb
      simp at hb
      exact hb ▸ ha
theorem all_append {l r : List Nat} {p : Nat → Bool} : (l ++ r).all p = true ↔ l.all p = true ∧ r.all p = true := by rw [List.all_append, Bool.and_eq_true]
theorem weights_all {H : Type} {P : Program} {e : TypeId} {p : Nat → Bool} : ∀ {ds : List (DataW H)}, (DataW.weightsAll P e ds).all p = true → ∀ d ∈ ds, (DataW.weights P e d).all p = true
  | [], _, d, hd => by simp at hd
  | d0 :: ds, h, d, hd => by
    rw [DataW.weightsAll, all_append] at h
    rcases List.mem_cons.1 hd with rfl | hd
    · exact h.1
    · exact weights_all h.2 d hd
theorem bulk_all {H α : Type} {m : α → Nat} : ∀ {l : List α} {ds : List (DataW H)}, l.length = ds.length → (∀ (i : Nat) (a : α) (y : DataW H), l[i]? = some a → ds[i]? = some y → m a ≤ Rows.uptoBulk y) → (l.map m).sum ≤ Rows.uptoBulkAll ds
  | [], [], _, _ => by simp [Rows.uptoBulkAll]
  | a :: l, d :: ds, hl, h => by
    have ih := bulk_all (l := l) (ds := ds) (by simpa using hl) (fun i a y h1 h2 => h (i + 1) a y (by simpa using h1) (by simpa using h2))
    have h0 := h 0 a d rfl rfl
    simp only [List.map_cons, List.sum_cons, Rows.uptoBulkAll]
    omega
  | [], _ :: _, hl, _ => by simp at hl
  | _ :: _, [], hl, _ => by simp at hl

theorem opens_slice {α : Type} {P : Program} {t e : TypeId} {d : Kd α} {V L : α → Prop} {m : α → Nat} (q : Nat) (b : Nat) (ht : P.underlying t = some (.slice e)) (hsz : P.cellsOf e = d.sz) (hb : P.bytesOf e = b) (ho : Opens P e d V L m) :
    Opens P t (Kd.slice q d) (fun l => ∀ a ∈ l, V a) (fun l => l.length * b ≤ 140737488351232 ∧ ∀ a ∈ l, L a) (fun l => (l.map m).sum + 1) where
  out {H enc w base spare held fuel cs x} h := by
    rcases DataW.trod_slice ht h with ⟨rfl, rfl⟩ | ⟨ad, len, cap, elems, rest, n, rfl, rfl, rfl, hbase, hlc, hcm, hlen, hel, hsp, hns⟩
    · exact ⟨[], ⟨none, 0, rfl, Nat.le_refl _, rfl, by simp, fun h => absurd h (by simp)⟩, by simp, fun _ => by simp, by simp [Rows.uptoBulk]⟩
    obtain ⟨l, hl, hq⟩ := list_of (Q := fun i a => (∃ c, c.length = d.sz ∧ d.K w a c ∧ (∀ j u, c[j]? = some u → w.cell? (ad.add (i * d.sz + j)) = some u)) ∧ V a ∧ (∀ y, elems[i]? = some y → ((DataW.weights P e y.1).all (· ≤ reachBytes) = true → L a) ∧ m a ≤ Rows.uptoBulk y.1)) len (by
      intro i hi
      have hy : elems[i]? = some (elems[i]'(by omega)) := List.getElem?_eq_getElem (by omega)
      have h1 := hel i hi
      rw [hy, Option.bind_eq_some_iff] at h1
      obtain ⟨c, hc, hx⟩ := h1
      obtain ⟨a, hK, hV, hL, hm⟩ := ho.out hx
      obtain ⟨hcl, hcc⟩ := cells_get hc
      rw [hsz] at hcl hcc
      refine ⟨a, ⟨c, hcl, hK, fun j u hu => by rw [← add_add]; exact hcc j u hu⟩, hV, fun y hy' => ?_⟩
      rw [hy] at hy'
      obtain rfl := Option.some.inj hy'
      exact ⟨hL, hm⟩)
    have hmax : len ≤ 9223372036854775807 := by unfold maxLen at hcm; omega
    have mem : ∀ a ∈ l, ∃ i, l[i]? = some a := fun a ha => List.mem_iff_getElem?.1 ha
    refine ⟨l, ⟨some ad, cap, by rw [hl], by omega, rfl, by omega, fun _ => ⟨ad, rfl, fun j p hp => ?_⟩⟩, ?_, ?_, ?_⟩
    · obtain ⟨⟨c, hcl, hK, hcc⟩, _⟩ := hq j p hp
      exact ⟨c, hcl, hK, hcc⟩
    · intro a ha
      obtain ⟨i, hi⟩ := mem a ha
      exact (hq i a hi).2.1
    · intro hw
      simp only [DataW.weights, ht, List.all_cons, Bool.and_eq_true, decide_eq_true_eq, all_append, List.length_map, hb] at hw
      obtain ⟨hw1, hw2, _⟩ := hw
      have hw1' : (elems.length + rest.length) * b ≤ 140737488351232 := hw1
      refine ⟨?_, ?_⟩
      · rw [hl, ← hlen]
        exact Nat.le_trans (Nat.mul_le_mul_right b (Nat.le_add_right _ _)) hw1'
      · intro a ha
        obtain ⟨i, hi⟩ := mem a ha
        have hlt : i < elems.length := by have := (List.getElem?_eq_some_iff.1 hi).1; omega
        refine ((hq i a hi).2.2 _ (List.getElem?_eq_getElem hlt)).1 (weights_all hw2 _ ?_)
        exact List.mem_map.2 ⟨_, List.getElem_mem hlt, rfl⟩
    · have hbk : (l.map m).sum ≤ Rows.uptoBulkAll (elems.map (·.1)) := bulk_all (by rw [hl, List.length_map, hlen]) (fun i a y h1 h2 => by
        rw [List.getElem?_map, Option.map_eq_some_iff] at h2
        obtain ⟨z, hz, rfl⟩ := h2
        exact ((hq i a h1).2.2 z hz).2)
      simp only [Rows.uptoBulk]
      omega

/-- The fields of a struct, one behind the other, from a place on. -/
structure OpensF {α : Type} (P : Program) (off : Nat) (fs : List Field) (d : Kd α) (V L : α → Prop) (m : α → Nat) : Prop where
  out : ∀ {H : Type} {enc : TypeId × Value → H} {w : World} {base : Nat} {spare : Nat → Bool} {held : Bool} {fuel : Nat} {cs : List Value} {xs : List (DataW H × List MemPlace)},
    fs.mapM (fun f => DataW.trod enc P w base spare held fuel f.type ((cs.drop f.offset).take (P.cellsOf f.type))) = some xs → cs.length = off + d.sz →
    ∃ a : α, d.K w a (cs.drop off) ∧ V a ∧ ((DataW.weightsEach P (fs.map (·.type)) (xs.map (·.1))).all (· ≤ reachBytes) = true → L a) ∧ m a ≤ Rows.uptoBulkAll (xs.map (·.1))
theorem opensF_one {α : Type} {P : Program} {off : Nat} {f : Field} {d : Kd α} {V L : α → Prop} {m : α → Nat} (ho : Opens P f.type d V L m) (hoff : f.offset = off) (hsz : P.cellsOf f.type = d.sz) : OpensF P off [f] d V L m where
  out {H enc w base spare held fuel cs xs} h hl := by
    obtain ⟨h1, h2⟩ := mapM_some h
    have e : xs = [xs[0]'(by rw [h1]; simp)] := by
      apply List.ext_getElem
      · simpa using h1
      · intro i hi _
        have : i = 0 := by rw [h1] at hi; simpa using hi
        subst this
        rfl
    have h3 := h2 0 (by simp)
    rw [List.getElem?_eq_getElem (by rw [h1]; simp)] at h3
    simp only [List.getElem_cons_zero] at h3
    rw [hoff, hsz, List.take_of_length_le (by rw [List.length_drop]; omega)] at h3
    obtain ⟨a, hK, hV, hL, hm⟩ := ho.out h3
    refine ⟨a, hK, hV, fun hw => hL ?_, ?_⟩
    · rw [e] at hw
      simpa [DataW.weightsEach] using hw
    · rw [e]
      simpa [Rows.uptoBulkAll] using hm
theorem opensF_cons {α β : Type} {P : Program} {off : Nat} {f : Field} {fs : List Field} {d : Kd α} {V L : α → Prop} {m : α → Nat} {d' : Kd β} {V' L' : β → Prop} {m' : β → Nat}
    (ho : Opens P f.type d V L m) (hoff : f.offset = off) (hsz : P.cellsOf f.type = d.sz) (hr : OpensF P (off + d.sz) fs d' V' L' m') :
    OpensF P off (f :: fs) (Kd.pair d d') (fun a => V a.1 ∧ V' a.2) (fun a => L a.1 ∧ L' a.2) (fun a => m a.1 + m' a.2) where
  out {H enc w base spare held fuel cs xs} h hl := by
    rw [List.mapM_cons] at h
    simp only [Option.bind_eq_bind, Option.bind_eq_some_iff, Option.pure_def, Option.some.injEq] at h
    obtain ⟨x, hx, xs', hxs, rfl⟩ := h
    rw [hoff, hsz] at hx
    have hl' : cs.length = off + (d.sz + d'.sz) := hl
    obtain ⟨a, hK, hV, hL, hm⟩ := ho.out hx
    obtain ⟨b, hK', hV', hL', hm'⟩ := hr.out hxs (by omega)
    refine ⟨(a, b), ⟨_, _, ?_, hK, hK'⟩, ⟨hV, hV'⟩, fun hw => ?_, ?_⟩
    · rw [← List.drop_drop, List.take_append_drop]
    · simp only [List.map_cons, DataW.weightsEach, all_append] at hw
      exact ⟨hL hw.1, hL' hw.2⟩
    · simp only [List.map_cons, Rows.uptoBulkAll]
      omega
theorem opens_struct {α β : Type} {P : Program} {t : TypeId} {fs : Array Field} {d : Kd α} {V L : α → Prop} {m : α → Nat} (f : β → α) (g : α → β) (hfg : ∀ a, f (g a) = a) (ht : P.underlying t = some (.struct fs)) (hsz : P.cellsOf t = d.sz) (hf : OpensF P 0 fs.toList d V L m) :
    Opens P t (Kd.iso d f) (fun b => V (f b)) (fun b => L (f b)) (fun b => m (f b) + 1) where
  out {H enc w base spare held fuel cs x} h := by
    cases fuel with
    | zero => simp [DataW.trod] at h
    | succ n =>
      unfold DataW.trod at h
      rw [ht] at h
      simp only at h
      split at h
      · rename_i hl
        rw [Option.map_eq_some_iff] at h
        obtain ⟨xs, hxs, rfl⟩ := h
        obtain ⟨a, hK, hV, hL, hm⟩ := hf.out hxs (by omega)
        refine ⟨g a, ?_, ?_, ?_, ?_⟩
        · show d.K w (f (g a)) cs
          rw [hfg]
          simpa using hK
        · show V (f (g a))
          rw [hfg]; exact hV
        · intro hw
          show L (f (g a))
          rw [hfg]
          simp only [DataW.weights, ht] at hw
          exact hL hw
        · rw [hfg]
          simp only [Rows.uptoBulk]
          omega
      · cases h
end Go.Proofs.Ytoghhpkmficnmaa.Open

/- A grid's matrix: its rows, one behind the other, as a text. -/
namespace Go.Proofs.Ytoghhpkmficnmaa.Grid
open Go.RowKit Go.Proofs.Ytoghhpkmficnmaa.Base Go.Proofs.Ytoghhpkmficnmaa.Bytes Go.Proofs.YtoghhpkmficnmaaW.PrintWords
/-- n rows of m bytes each, that are read: under the row of rows at block g0. -/
def RowsC (W : World) (g0 n m : Nat) (f : Nat → Nat → Int) : Prop := ∀ i, i < n → ∃ rb c, W.cell? ⟨g0, i, none⟩ = some (.slice (some ⟨rb, 0, none⟩) m c) ∧ Br W rb m (f i)
theorem RowsC.below {W W1 : World} {g0 n m : Nat} {f : Nat → Nat → Int} (h : RowsC W g0 n m f) (hb : Below W.heap.size W W1) : RowsC W1 g0 n m f := fun i hi => by
  obtain ⟨rb, c, h1, h2⟩ := h i hi
  exact ⟨rb, c, (hb.cell (p := ⟨g0, i, none⟩) (World.block_lt_of_cell? W ⟨g0, i, none⟩ h1)).trans h1, h2.below hb⟩
theorem Grid.rows {B : Nat} {W : World} {g0 n cap m : Nat} {rs : List (Nat × Nat)} {f : Nat → Nat → Int} (h : Grid B W (.slice (some ⟨g0, 0, none⟩) n cap) m (rs.map some) rs f) (hn : rs.length = n) : RowsC W g0 n m f := fun i hi => by
  have h1 := (h.outer hi).1
  have h2 : rs[i]? = some (rs[i]'(by omega)) := List.getElem?_eq_getElem (by omega)
  refine ⟨(rs[i]'(by omega)).1, (rs[i]'(by omega)).2, ?_, (h.row i _ h2).1⟩
  rw [h1]
  simp [rowV, List.getD_eq_getElem?_getD, h2]
/-- The text of n rows of m bytes. -/
def cellsOf (n m : Nat) (f : Nat → Nat → Int) : ByteArray := strOfNums (listOf (n * m) (fun k => f (k / m) (k % m)))
def rowL (m : Nat) (f : Nat → Int) : List UInt8 := (listOf m f).map fun x => UInt8.ofNat x.toNat
theorem rowL_len (m : Nat) (f : Nat → Int) : (rowL m f).length = m := by simp [rowL, listOf_length]
theorem u8_back {x : Int} (h0 : 0 ≤ x) (h1 : x < 256) : ((UInt8.ofNat x.toNat).toNat : Int) = x := by
  rw [UInt8.toNat_ofNat']; omega
theorem rowL_get {m : Nat} {f : Nat → Int} (hb : ∀ j, j < m → 0 ≤ f j ∧ f j < 256) (j : Nat) (x : UInt8) (h : (rowL m f)[j]? = some x) : j < m ∧ (x.toNat : Int) = f j := by
  have hj : j < m := by have := (List.getElem?_eq_some_iff.1 h).1; rwa [rowL_len] at this
  refine ⟨hj, ?_⟩
  simp only [rowL, List.getElem?_map, listOf_get m f j hj, Option.map_some, Option.some.injEq] at h
  rw [← h]
  exact u8_back (hb j hj).1 (hb j hj).2
theorem listOf_add (a b : Nat) (f : Nat → Int) : listOf (a + b) f = listOf a f ++ listOf b (fun j => f (a + j)) := by
  simp [listOf, List.range_add, List.map_append, Function.comp_def]
theorem rows_flat (m : Nat) (f : Nat → Nat → Int) (hm : 0 < m) : ∀ n, ((List.range n).map (fun i => rowL m (f i))).flatten = (listOf (n * m) (fun k => f (k / m) (k % m))).map fun x => UInt8.ofNat x.toNat
  | 0 => by simp [listOf]
  | n + 1 => by
    rw [List.range_succ, List.map_append, List.flatten_append, rows_flat m f hm n, Nat.succ_mul, listOf_add, List.map_append]
    congr 1
    simp only [List.map_cons, List.map_nil, List.flatten_cons, List.flatten_nil, List.append_nil, rowL]
    congr 1
    refine listOf_congr fun j hj => ?_
    rw [Nat.mul_comm n m, Nat.mul_add_div hm, Nat.mul_add_mod, Nat.div_eq_of_lt hj, Nat.mod_eq_of_lt hj, Nat.add_zero]
theorem cellsOf_size (n m : Nat) (f : Nat → Nat → Int) : (cellsOf n m f).size = n * m := by rw [cellsOf, strOfNums_size, listOf_length]
theorem bt_cellsOf {n m : Nat} {f : Nat → Nat → Int} (hb : ∀ i j, i < n → j < m → 0 ≤ f i j ∧ f i j < 256) (i j : Nat) (hi : i < n) (hj : j < m) : bt (cellsOf n m f) ((i * m + j : Nat) : Int) = f i j := by
  have hk : i * m + j < n * m := by
    have := Nat.mul_le_mul_right m (show i + 1 ≤ n from hi)
    rw [Nat.succ_mul] at this
    omega
  have h1 : i * m + j < (B (cellsOf n m f)).length := by rw [B_len, cellsOf_size]; exact hk
  rw [bt_B _ _ h1]
  have h2 : (B (cellsOf n m f))[i * m + j] = UInt8.ofNat (f i j).toNat := by
    have : (B (cellsOf n m f))[i * m + j]? = some (UInt8.ofNat (f i j).toNat) := by
      rw [cellsOf, B_nums, List.getElem?_map, listOf_get _ _ _ hk]
      simp only [Option.map_some]
      rw [Nat.mul_comm i m, Nat.mul_add_div (by omega), Nat.mul_add_mod, Nat.div_eq_of_lt hj, Nat.mod_eq_of_lt hj, Nat.add_zero]
    exact Option.some.inj ((List.getElem?_eq_getElem h1).symm.trans this)
  rw [h2]
  exact u8_back (hb i j hi hj).1 (hb i j hi hj).2
theorem fresh_string {P : Program} {src dst e : TypeId} (hs : P.underlying src = some (.slice e)) (he : P.underlying e = some (.int .u8)) (hd : P.underlying dst = some .string) {Bs : Nat} {w : World} {v : Value} {l : List UInt8} (h : Lib.FreshBytes Bs w v l) (hl : l.length ≤ 9223372036854775807) :
    ∃ g c, v = .slice (some ⟨g, 0, none⟩) l.length c ∧ ∀ k, (convert src dst (.slice (some ⟨g, 0, none⟩) l.length c)).run P (w.drewN k) = .ok (.string ⟨l.toArray⟩) (w.drewN k) := by
  obtain ⟨g, cap, zs, rfl, _, hlc, _, hz, hz0, hzb, hc, _⟩ := h
  refine ⟨g, cap, rfl, fun k => ?_⟩
  have hlen : (zs.take l.length).length = l.length := by rw [List.length_take]; omega
  have hr : ReadsInt (w.drewN k) .u8 (some ⟨g, 0, none⟩) l.length (zs.take l.length) := by
    refine ⟨hlen, hl, fun _ => ⟨_, rfl, fun j hj => ?_⟩⟩
    rw [add_plain]
    refine (hc j (by omega)).trans ?_
    simp [List.getD_eq_getElem?_getD, hj]
  have := string_of_reads (c := cap) hs he hd hr
  rw [this]
  congr 2
  refine B_inj ?_
  rw [B_nums, B_mk]
  exact hzb
theorem join_calls (g0 n m cap : Nat) (f : Nat → Nat → Int) (W : World) (hn : 1 ≤ n) (hn1 : n ≤ 255) (hm : 1 ≤ m) (hm1 : m ≤ 255) (h : RowsC W g0 n m f) (hcap : n ≤ cap) (hb : ∀ i j, i < n → j < m → 0 ≤ f i j ∧ f i j < 256) :
    Calls Try.prog 45 #[.slice (some ⟨g0, 0, none⟩) n cap, .slice none 0 0] W fun e W' => ∃ g c, e = .returned (.slice (some ⟨g, 0, none⟩) (n * m) c) ∧ (∀ k, (convert 54 9 (.slice (some ⟨g, 0, none⟩) (n * m) c)).run Try.prog (W'.drewN k) = .ok (.string (cellsOf n m f)) (W'.drewN k)) ∧ Below W.heap.size W W' := by
  obtain ⟨ls, hls⟩ : ∃ ls, ls = (List.range n).map (fun i => rowL m (f i)) := ⟨_, rfl⟩
  have hll : ls.length = n := by rw [hls]; simp
  have hlg : ∀ i l, ls[i]? = some l → i < n ∧ l = rowL m (f i) := fun i l hi => by
    have h1 : i < n := by have := (List.getElem?_eq_some_iff.1 hi).1; omega
    refine ⟨h1, ?_⟩
    rw [hls] at hi
    simp [h1] at hi
    exact hi.symm
  have hflat : ls.flatten = (listOf (n * m) (fun k => f (k / m) (k % m))).map fun x => UInt8.ofNat x.toNat := by rw [hls]; exact rows_flat m f (by omega) n
  have hfl : ls.flatten.length = n * m := by rw [hflat, List.length_map, listOf_length]
  have hnm : n * m ≤ 255 * 255 := Nat.mul_le_mul hn1 hm1
  have fin : ∀ {v' : Value} {W' : World}, Lib.FreshBytes W.heap.size W' v' ls.flatten → ∃ g c, v' = .slice (some ⟨g, 0, none⟩) (n * m) c ∧ (∀ k, (convert 54 9 (.slice (some ⟨g, 0, none⟩) (n * m) c)).run Try.prog (W'.drewN k) = .ok (.string (cellsOf n m f)) (W'.drewN k)) := fun hF => by
    obtain ⟨g, c, h1, h2⟩ := fresh_string Try.underlying54 Try.underlying5 Try.underlying9 hF (by rw [hfl]; omega)
    rw [hfl] at h1 h2
    refine ⟨g, c, h1, fun k => ?_⟩
    rw [h2 k, hflat]
    rfl
  by_cases h1 : n = 1
  · subst h1
    obtain ⟨rb, c, hc, hr⟩ := h 0 (by omega)
    have hc' : W.cell? ⟨g0, 0, none⟩ = some (.slice (some ⟨rb, 0, none⟩) (rowL m (f 0)).length c) := by rw [rowL_len]; exact hc
    refine (Try.bytes_Join_one g0 0 cap ⟨rb, 0, none⟩ c (rowL m (f 0)) (.slice none 0 0) W hc' (fun i x hx => ?_) (by rw [rowL_len]; omega) (by rw [rowL_len]; omega)).mono ?_
    · obtain ⟨h1, h2⟩ := rowL_get (fun j hj => hb 0 j (by omega) hj) i x hx
      rw [add_plain, hr.cell h1, h2]
    · rintro e W' ⟨v', rfl, hF, hB⟩
      have e1 : ls.flatten = rowL m (f 0) := by rw [hls]; simp
      rw [← e1] at hF
      obtain ⟨g, c', rfl, h3⟩ := fin hF
      exact ⟨g, c', rfl, h3, hB⟩
  · obtain ⟨vs, hvl, hvs⟩ := Open.list_of (Q := fun i v => ∃ rb c, v = Value.slice (some ⟨rb, 0, none⟩) m c ∧ W.cell? ⟨g0, i, none⟩ = some v ∧ Br W rb m (f i)) n (fun i hi => by
      obtain ⟨rb, c, h1, h2⟩ := h i hi
      exact ⟨_, rb, c, rfl, h1, h2⟩)
    have hP : Lib.PartsAt W ⟨g0, 0, none⟩ vs ls := by
      refine ⟨by rw [hvl, hll], fun i v hv => ?_, fun i v l hv hl => ?_⟩
      · obtain ⟨rb, c, _, h2, _⟩ := hvs i v hv
        rw [add_plain]; exact h2
      · obtain ⟨rb, c, rfl, _, h3⟩ := hvs i v hv
        obtain ⟨hi, rfl⟩ := hlg i l hl
        refine ⟨some ⟨rb, 0, none⟩, c, by rw [rowL_len], fun hc => (by cases hc), fun a ha j x hx => ?_⟩
        obtain rfl := Option.some.inj ha
        obtain ⟨h4, h5⟩ := rowL_get (fun j hj => hb i j hi hj) j x hx
        rw [add_plain, h3.cell h4, h5]
    have hlens : Lib.lens ls = n * m := by
      rw [← hfl, List.length_flatten]; rfl
    refine (Try.bytes_Join_many g0 0 n cap vs ls (.slice none 0 0) [] W hll (by omega) hP hcap ⟨none, 0, rfl, fun _ => rfl, fun a ha => by cases ha⟩ (by omega) (by rw [hlens]; simp; omega)).mono ?_
    rintro e W' ⟨v', rfl, hF, hB⟩
    have e1 : Lib.join ls [] = ls.flatten := by
      cases ls with
      | nil => rfl
      | cons x r => rw [Lib.join_cons]; simp [Lib.joinTail]
    rw [e1] at hF
    obtain ⟨g, c', rfl, h3⟩ := fin hF
    exact ⟨g, c', rfl, h3, hB⟩
end Go.Proofs.Ytoghhpkmficnmaa.Grid
namespace Go.Proofs.Ytoghhpkmficnmaa.Al
open Go.RowKit Go.Proofs.Ytoghhpkmficnmaa.Base Go.Proofs.Ytoghhpkmficnmaa.Bytes Go.Proofs.Ytoghhpkmficnmaa.Grid Go.Proofs.YtoghhpkmficnmaaW.PrintWords Go.Proofs.YtoghhpkmficnmaaW.PrintLast Go.Proofs.YtoghhpkmficnmaaW.PrintMore
set_option linter.unusedVariables false
set_option linter.unusedSimpArgs false
def rg31_1_T : Bool × List (List Nat × List Nat) := (true, [([], []), ([0], [0]), ([], []), ([2], [2]), ([3], [3]), ([4], [4]), ([], []), ([6], [6]), ([7], [7]), ([1, 5, 8], [1, 5, 8]), ([9, 7, 0, 1, 2, 3, 4, 5, 6, 7, 8, 9], [9])])
def rg31_1_B : List Nat := [0, 1, 0, 4, 12, 28, 0, 64, 192, 511, 1023]
theorem rg31_1_tab : rtab .any (opsOf Try.f31 1) = rg31_1_T := by kernel_rfl
theorem rg31_1_bits : waitsOk rg31_1_T.2 rg31_1_B = true := by kernel_rfl
set_option maxHeartbeats 8000000 in
set_option maxRecDepth 100000 in
theorem matrix_calls (g0 n m cap : Nat) (f : Nat → Nat → Int) (W : World) (hn : 1 ≤ n) (hn1 : n ≤ 255) (hm : 1 ≤ m) (hm1 : m ≤ 255) (h : RowsC W g0 n m f) (hcap : n ≤ cap) (hb : ∀ i j, i < n → j < m → 0 ≤ f i j ∧ f i j < 256) :
    Calls Try.prog 31 #[.slice (some ⟨g0, 0, none⟩) n cap] W fun e W' => e = .returned (.agg #[.int .i64 n, .int .i64 m, .string (cellsOf n m f)]) ∧ Below W.heap.size W W' := by
  have HR := Aside0.mk h
  have HBY := Aside0.mk hb
  have HB := Aside0.mk (Below.refl W.heap.size W)
  clear h hb
  go_enter Try.func31, Try.ntmps31
  obtain ⟨rb, c0, hx0, hr0⟩ := HR.out 0 (by omega)
  have HX := Aside0.mk hx0
  clear hx0 hr0
  go_wp2_with (first | ((with_reducible refine gate_dst (N := 2) rfl ?_); refine box_event ?hg (N := 2) ?hd (cs := #[.int .i64 0, .int .i64 0, .string ⟨#[]⟩]) (t := 24) ?hr ?_; (case hd => rfl); (case hg => rfl); (case hr => first | (go_simp; done) | (go_simp; rfl)); intro gq hg w1 hbox hb; have HG := Aside0.mk (Nat.le_of_eq hg.symm); have HX1 := Aside0.mk ((hb.cell (p := ⟨g0, 0, none⟩) (World.block_lt_of_cell? W ⟨g0, 0, none⟩ HX.out)).trans HX.out); have HR1 := Aside0.mk (HR.out.below hb); have HK1 := Aside0.mk hbox; have HB1 := Aside0.mk hb; clear hg hbox hb))
  have hx1 := HX1.out
  have hne : g0 ≠ gq := by have := World.block_lt_of_cell? W ⟨g0, 0, none⟩ HX.out; have := HG.out; simp only at *; omega
  have hne' : gq ≠ g0 := Ne.symm hne
  have z0 : (0 : Int) < (n : Int) := by omega
  have z1 : 0 < n := by omega
  refine start_ (n := 11) (S := fun w' => w'.cell? ⟨g0, 0, none⟩ = some (.slice (some ⟨rb, 0, none⟩) m c0)) (ds := []) #[false, false, false, false, false, false, false, false, false, false, false] (by kernel_rfl) rfl rfl hx1 (fun hHeld => ?_)
  refine with_tabW rg31_1_tab rg31_1_bits (fun HT_ HW_ => ?_)
  refine pure_ (i := 0) (N := some 3) (v := ?_) (a' := ?_) #[true, false, false, false, false, false, false, false, false, false, false] rfl rfl (any_of HT_.out (by kernel_rfl)) (fun _ _ _ h => h) (Or.inl ⟨by rfl, ?_⟩) ?_ ?_
  rotate_left
  · intro w'
    go_simp
    with_reducible rfl
  rotate_left
  · simp only [Act.put, List.setIfInBounds_toArray, List.set_cons_zero, List.set_cons_succ, i64_w, i32_w]
    rfl
  refine pure_ (i := 1) (N := some 4) (v := ?_) (a' := ?_) #[true, true, false, false, false, false, false, false, false, false, false] rfl rfl (any_of HT_.out (by kernel_rfl)) (fun _ _ _ h => h) (Or.inl ⟨by rfl, ?_⟩) ?_ ?_
  rotate_left
  · intro w'
    go_simp
    with_reducible rfl
  rotate_left
  · simp only [Act.put, List.setIfInBounds_toArray, List.set_cons_zero, List.set_cons_succ, i64_w, i32_w]
    rfl
  refine pure_ (i := 2) (N := some 5) (v := ?_) (a' := ?_) #[true, true, true, false, false, false, false, false, false, false, false] rfl rfl (any_of HT_.out (by kernel_rfl)) (fun _ _ _ h => h) (Or.inl ⟨by rfl, ?_⟩) ?_ ?_
  rotate_left
  · intro w'
    go_simp
    with_reducible rfl
  rotate_left
  · simp only [Act.put, List.setIfInBounds_toArray, List.set_cons_zero, List.set_cons_succ, i64_w, i32_w]
    rfl
  refine pure_ (i := 3) (N := some 6) (v := ?_) (a' := ?_) #[true, true, true, true, false, false, false, false, false, false, false] rfl rfl (any_of HT_.out (by kernel_rfl)) (fun _ _ _ h => h) (Or.inl ⟨by rfl, ?_⟩) ?_ ?_
  rotate_left
  · intro w'
    go_simp
    with_reducible rfl
  rotate_left
  · simp only [Act.put, List.setIfInBounds_toArray, List.set_cons_zero, List.set_cons_succ, i64_w, i32_w]
    rfl
  refine take_ (i := 4) (N := some 7) (v := ?_) (a' := ?_) #[true, true, true, true, true, false, false, false, false, false, false] rfl rfl (take_ofW HT_.out HW_.out (by kernel_rfl)) (fun _ _ _ h => h) (Or.inl ⟨by rfl, ?_⟩) hHeld ?_ ?_
  rotate_left
  · rintro w' s0
    go_simp
    with_reducible rfl
  rotate_left
  · simp only [Act.put, List.setIfInBounds_toArray, List.set_cons_zero, List.set_cons_succ, i64_w, i32_w]
    rfl
  refine pure_ (i := 5) (N := some 8) (v := ?_) (a' := ?_) #[true, true, true, true, true, true, false, false, false, false, false] rfl rfl (any_of HT_.out (by kernel_rfl)) (fun _ _ _ h => h) (Or.inl ⟨by rfl, ?_⟩) ?_ ?_
  rotate_left
  · intro w'
    go_simp
    with_reducible rfl
  rotate_left
  · simp only [Act.put, List.setIfInBounds_toArray, List.set_cons_zero, List.set_cons_succ, i64_w, i32_w]
    rfl
  refine pure_ (i := 6) (N := some 9) (v := ?_) (a' := ?_) #[true, true, true, true, true, true, true, false, false, false, false] rfl rfl (any_of HT_.out (by kernel_rfl)) (fun _ _ _ h => h) (Or.inl ⟨by rfl, ?_⟩) ?_ ?_
  rotate_left
  · intro w'
    go_simp
    with_reducible rfl
  rotate_left
  · simp only [Act.put, List.setIfInBounds_toArray, List.set_cons_zero, List.set_cons_succ, i64_w, i32_w]
    rfl
  refine one_ (i := 7) (N := some 10) #[true, true, true, true, true, true, true, true, false, false, false] rfl rfl (one_of HT_.out (by kernel_rfl)) (by decide) (fun K hK => ?_)
  (refine goes_ Try.func45 (by kernel_rfl) rfl #[.slice (some ⟨g0, 0, none⟩) n cap, .slice none 0 0] (by rfl) rfl rfl (by (try simp only [List.map_toArray, List.map_cons, List.map_nil]); first | done | rfl) ?_; refine (join_calls g0 n m cap f _ hn hn1 hm hm1 (HR1.out.below (below_drew (Below.refl _ _))) hcap HBY.out).mono ?_; rintro e w' ⟨gj, cj, rfl, hcv, hbj⟩; refine ⟨_, rfl, ?_⟩; have hxj : w'.cell? ⟨g0, 0, none⟩ = some (.slice (some ⟨rb, 0, none⟩) m c0) := (hbj.cell (p := ⟨g0, 0, none⟩) (World.block_lt_of_cell? _ ⟨g0, 0, none⟩ hx1)).trans hx1; have hcv0 : (convert 54 9 (.slice (some ⟨gj, 0, none⟩) (n * m) cj)).run Try.prog w' = .ok (.string (cellsOf n m f)) w' := hcv 0; have hk' : w'.heap[gq]? = some (.cells #[.int .i64 0, .int .i64 0, .string ⟨#[]⟩] 24 (0, 0)) := (hbj.block gq (blk_lt HK1.out)).trans HK1.out; have HKj := Aside0.mk hk'; have HBj := Aside0.mk hbj; clear hbj hcv hk')
  refine hK.out _ _ hxj (fun hHeld => ?_)
  clear hK K
  try simp only [Act.put, List.setIfInBounds_toArray, List.set_cons_zero, List.set_cons_succ, i64_w, i32_w]
  refine one_ (i := 8) (N := some 11) #[true, true, true, true, true, true, true, true, true, false, false] rfl rfl (one_of HT_.out (by kernel_rfl)) (by decide) (fun K hK => ?_)
  (go_simp)
  refine hK.out _ _ hHeld (fun hHeld => ?_)
  clear hK K
  try simp only [Act.put, List.setIfInBounds_toArray, List.set_cons_zero, List.set_cons_succ, i64_w, i32_w]
  refine pure_ (i := 9) (N := some 12) (v := ?_) (a' := ?_) #[true, true, true, true, true, true, true, true, true, true, false] rfl rfl (any_of HT_.out (by kernel_rfl)) (fun _ _ _ h => h) (Or.inl ⟨by rfl, ?_⟩) ?_ ?_
  rotate_left
  · intro w'
    go_simp
    with_reducible rfl
  rotate_left
  · simp only [Act.put, List.setIfInBounds_toArray, List.set_cons_zero, List.set_cons_succ, i64_w, i32_w]
    rfl
  have hq0 : w'.cell? ⟨gq, 0, none⟩ = some (.int .i64 0) := (blk_cell HKj.out 0).trans rfl
  have hq1 : w'.cell? ⟨gq, 1, none⟩ = some (.int .i64 0) := (blk_cell HKj.out 1).trans rfl
  have hq2 : w'.cell? ⟨gq, 2, none⟩ = some (.string ⟨#[]⟩) := (blk_cell HKj.out 2).trans rfl
  have hz0 := blk_frozen HKj.out 0
  have hz1 := blk_frozen HKj.out 1
  have hz2 := blk_frozen HKj.out 2
  refine one_ (i := 10) (N := none) #[true, true, true, true, true, true, true, true, true, true, true] rfl rfl (one_of HT_.out (by kernel_rfl)) (by decide) (fun K hK => ?_)
  (refine skip_ (w1 := ?_) (by rfl) rfl ?_ ?_; rotate_left; · (go_simp; rfl))
  refine hK.out _ _ ((cell_far hne _).trans ((cell_far hne _).trans ((cell_far hne _).trans hHeld))) (fun hHeld => ?_)
  clear hK K
  try simp only [Act.put, List.setIfInBounds_toArray, List.set_cons_zero, List.set_cons_succ, i64_w, i32_w]
  refine done_ (done_of HT_.out (by kernel_rfl)) ?_
  go_wp2
  have hb1 := blk_set (blk_set (blk_set HKj.out 0 (.int .i64 n)) 1 (.int .i64 m)) 2 (.string (cellsOf n m f))
  have HE := Aside0.mk (below_set (j := 2) (v := .string (cellsOf n m f)) (below_set (j := 1) (v := .int .i64 m) (below_set (j := 0) (v := .int .i64 n) (below_step (below_drew1 HB1.out) HBj.out) HG.out) HG.out) HG.out)
  exact bodyPost_ret (results_cell_row rfl _ _ gq 24 #[.int .i64 n, .int .i64 m, .string (cellsOf n m f)] (0, 0) _ rfl hb1 Try.underlying24 rfl (by kernel_rfl)) rfl ⟨rfl, HE.out⟩
end Go.Proofs.Ytoghhpkmficnmaa.Al

/- matrix.one and Identity by their contracts. -/
namespace Go.Proofs.Ytoghhpkmficnmaa.Al
open Go.RowKit Go.Proofs.Ytoghhpkmficnmaa.Base Go.Proofs.Ytoghhpkmficnmaa.Bytes Go.Proofs.Ytoghhpkmficnmaa.Grid Go.Proofs.YtoghhpkmficnmaaW.PrintWords Go.Proofs.YtoghhpkmficnmaaW.PrintLast Go.Proofs.YtoghhpkmficnmaaW.PrintMore
set_option linter.unusedVariables false
set_option linter.unusedSimpArgs false
def ixI (i j : Nat) : Int := if i = j then 1 else 0
set_option maxHeartbeats 8000000 in
set_option maxRecDepth 100000 in
theorem one_calls (n : Nat) (w : World) (hn0 : 1 ≤ n) (hn1 : n ≤ 255) :
    Calls Try.prog 29 #[.int .i64 n] w fun e w' => ∃ (g0 cap : Nat) (rs : List (Nat × Nat)), e = .returned (.slice (some ⟨g0, 0, none⟩) n cap) ∧ rs.length = n ∧ Grid w.heap.size w' (.slice (some ⟨g0, 0, none⟩) n cap) n (rs.map some) rs ixI ∧ Below w.heap.size w w' := by
  have HB1 := Aside0.mk (Below.refl w.heap.size w)
  have hmk := print_make (P := Try.prog) 54 5 .u8 1 Try.underlying54 info5 (by decide) n (by omega)
  go_enter Try.func29, Try.ntmps29
  go_wp2_with (first | ((with_reducible refine gate_dst (N := 6) rfl ?_); refine Kd.R_make (kG n) (w0 := w) w.heap.size 54 rfl (N := 6) rfl 52 (.tmp 5) (.tmp 5) rfl (n : Int) rfl rfl Try.underlying52 (.slice none 0 0) 24 info54 rfl Nat.one_pos (by omega) none (okp := fun _ => False) (ok := fun _ => True) ?hz (fun _ h => h.elim) trivial (by omega) ?hl HB1.out HB1.out.size ?_; (case hz => exact rfl); (case hl => omega); intro v2 w2 ho hb2 hgr hat; obtain ⟨g0, cap0, e0, hge, hlt, cells, hcc⟩ := Kd.R_form ho (by simp; omega); subst e0; simp only [List.length_replicate, Int.toNat_natCast] at ho ⊢; have HGE := Aside0.mk hge; clear hge hlt hcc; have HO := Aside0.mk ho; have HB2 := Aside0.mk hb2; clear ho hb2 hgr hat))
  go_loopw [4, 9] (fun v4 v9 wr => ∃ (k : Nat) (rs : List (Nat × Nat)), v9 = .int .i64 k ∧ k ≤ n ∧ Aside0 (rs.length = k) ∧ Aside0 (Grid w.heap.size wr (.slice (some ⟨g0, 0, none⟩) n cap0) n (gpart rs n) rs ixI) ∧ Aside0 (Below w.heap.size w wr)) (fun _ v9 _ => n - (intOf v9).toNat)
  case atStart => exact ⟨0, [], rfl, Nat.zero_le _, ⟨rfl⟩, ⟨⟨by rw [gpart_nil]; exact HO.out, fun i p hp => by simp at hp, by simp⟩⟩, HB2⟩
  case round =>
    obtain ⟨k, rs, rfl, hk, HL, HG, HB3⟩ := hrel
    by_cases hlt : k < n
    · have HG1 := Aside0.mk (HG.out.alloc (.cells (madeCells #[.int .u8 0] n) 5))
      obtain ⟨hoc, hof⟩ := HG1.out.outer hlt
      go_upto_region 6 with (fail)
      have HG2 := HG1.out.put HG.out.lt (br_lit wr (madeCells #[.int .u8 0] n) n (fun j hj => made_get _ _ _ hj)) HB3.out.size k n
      have HB4 := Aside0.mk (below_set (j := k) (v := .slice (some ⟨wr.heap.size, 0, none⟩) n n) (HB3.out.alloc HB3.out.size (.cells (madeCells #[.int .u8 0] n) 5)) HGE.out)
      obtain ⟨W1, hW1⟩ : ∃ W, W = ((wr.alloc (.cells (madeCells #[.int .u8 0] n) 5)).setCell ⟨g0, k, none⟩ (.slice (some ⟨wr.heap.size, 0, none⟩) n n)) := ⟨_, rfl⟩
      rw [← hW1] at HG2 HB4 ⊢
      have hL := HL.out
      have hp := gpart_set (rs := rs) (n := n) (by omega) (wr.heap.size, n)
      rw [hL] at hp
      rw [hp] at HG2
      have hi : (rs ++ [(wr.heap.size, n)])[k]? = some (wr.heap.size, n) := by rw [← hL]; simp
      have hrow := (HG2.row k _ hi).1
      have h1 := hrow.cell hlt
      have h2 := hrow.frozen hlt
      have h3 := (HG2.outer hlt).1
      rw [show (gpart (rs ++ [(wr.heap.size, n)]) n).getD k none = some (wr.heap.size, n) from by
        rw [List.getD_eq_getElem?_getD, gpart, List.getElem?_append_left (by simp; omega), List.getElem?_map, hi]; rfl] at h3
      simp only [rowV] at h3
      have HG3 := Aside0.mk (HG2.set hi hlt 1)
      have HGE2 := Aside0.mk HB3.out.size
      have HL2 := Aside0.mk hL
      have c1 : (0 : Int) ≤ (k : Int) := by omega
      clear hW1 hL hp HG2 hi hrow hoc hof
      go_wp2
      go_roundw
      case rel =>
        refine ⟨k + 1, _, by go_num, hlt, ⟨by rw [List.length_append, HL2.out]; rfl⟩, ⟨HG3.out.congr fun i j hi hj => ?_⟩, ⟨below_set HB4.out HGE2.out⟩⟩
        have := HL2.out
        rw [this]
        unfold ixI
        by_cases e1 : i = k
        · subst e1
          by_cases e2 : j = i
          · subst e2; simp
          · simp [e2, Ne.symm e2]
        · simp [e1]
      case measure => simp [intOf]; omega
    · obtain rfl : k = n := by omega
      go_wp2
      go_ret
      refine ⟨g0, cap0, rs, rfl, HL.out, ?_, HB3.out⟩
      have := HG.out
      rwa [gpart_full HL.out] at this
set_option maxHeartbeats 8000000 in
set_option maxRecDepth 100000 in
theorem ident_calls (n : Int) (w : World) :
    Calls Try.prog 16 #[.int .i64 n] w fun e w' => e = .returned (if 1 ≤ n ∧ n ≤ 255 then .tuple #[.agg #[.int .i64 n, .int .i64 n, .string (cellsOf n.toNat n.toNat ixI)], .int .i64 0] else .tuple #[.agg #[.int .i64 0, .int .i64 0, .string ⟨#[]⟩], .int .i64 1]) ∧ Below w.heap.size w w' := by
  by_cases h1 : n < 1
  · rw [if_neg (by omega)]
    go_enter Try.func16, Try.ntmps16
    go_wp2
    exact bodyPost_ret (v := .tuple #[.agg #[.int .i64 0, .int .i64 0, .string ⟨#[]⟩], .int .i64 1]) (by simp [results, Try.results16, go_sem]) rfl ⟨rfl, (Below.refl _ _).alloc (Nat.le_refl _) _⟩
  · by_cases h2 : n > 255
    · rw [if_neg (by omega)]
      have h1' : decide (n < 1) = false := decide_eq_false h1
      go_enter Try.func16, Try.ntmps16
      go_wp2
      exact bodyPost_ret (v := .tuple #[.agg #[.int .i64 0, .int .i64 0, .string ⟨#[]⟩], .int .i64 1]) (by simp [results, Try.results16, go_sem]) rfl ⟨rfl, (Below.refl _ _).alloc (Nat.le_refl _) _⟩
    · rw [if_pos (by omega)]
      obtain ⟨k, rfl⟩ := Int.eq_ofNat_of_zero_le (show 0 ≤ n by omega)
      rw [Int.toNat_natCast]
      have HB := Aside0.mk (Below.refl w.heap.size w)
      go_enter Try.func16, Try.ntmps16
      go_wp2_with (first | ((with_reducible refine gate_dst (N := 2) rfl ?_); refine box_event ?hg (N := 2) ?hd (cs := #[.int .i64 0, .int .i64 0, .string ⟨#[]⟩]) (t := 24) ?hr ?_; (case hd => rfl); (case hg => rfl); (case hr => first | (go_simp; done) | (go_simp; rfl)); intro gq hg w1 hbox hb; have HG := Aside0.mk (Nat.le_of_eq hg.symm); have HK1 := Aside0.mk hbox; have HB1 := Aside0.mk hb; clear hg hbox hb) | (go_at_call 29; refine (one_calls k _ (by omega) (by omega)).mono ?_; rintro e w2 ⟨g0, cap, rs, rfl, hrl, hG, hb⟩; have HR2 := Aside0.mk (hG.rows hrl); have HC2 := Aside0.mk (Kd.R_reads' hG.out).2.1; have HK2 := Aside0.mk (blk_below HK1.out hb); have HB2 := Aside0.mk (below_step HB1.out hb); clear hrl hG hb) | (go_at_call 31; refine (matrix_calls g0 k k cap ixI _ (by omega) (by omega) (by omega) (by omega) HR2.out (by have := HC2.out; simpa using this) (fun i j _ _ => by unfold ixI; split <;> omega)).mono ?_; rintro e w3 ⟨rfl, hb⟩; have hk3 := blk_below HK2.out hb; have HB3 := Aside0.mk (below_step HB2.out hb); have hq0 : w3.cell? ⟨gq, 0, none⟩ = some (.int .i64 0) := (blk_cell hk3 0).trans rfl; have hq1 : w3.cell? ⟨gq, 1, none⟩ = some (.int .i64 0) := (blk_cell hk3 1).trans rfl; have hq2 : w3.cell? ⟨gq, 2, none⟩ = some (.string ⟨#[]⟩) := (blk_cell hk3 2).trans rfl; have hz0 := blk_frozen hk3 0; have hz1 := blk_frozen hk3 1; have hz2 := blk_frozen hk3 2; have HK3 := Aside0.mk hk3; clear hk3 hb))
      have hb1 := blk_set (blk_set (blk_set HK3.out 0 (.int .i64 k)) 1 (.int .i64 k)) 2 (.string (cellsOf k k ixI))
      have HE := Aside0.mk (below_set (j := 2) (v := .string (cellsOf k k ixI)) (below_set (j := 1) (v := .int .i64 k) (below_set (j := 0) (v := .int .i64 k) HB3.out HG.out) HG.out) HG.out)
      exact bodyPost_ret (results_ct rfl _ _ gq 24 #[.int .i64 k, .int .i64 k, .string (cellsOf k k ixI)] (0, 0) _ rfl hb1 Try.underlying24 rfl (by kernel_rfl)) rfl ⟨rfl, HE.out⟩
end Go.Proofs.Ytoghhpkmficnmaa.Al

/- The field of 256 elements in plain numbers: powers of 2, logs, products; no program. -/
namespace Go.Proofs.Ytoghhpkmficnmaa.GfMath
def xt (n : Nat) : Nat := if n < 128 then 2 * n else (2 * n) ^^^ 285
def E : Nat → Nat
  | 0 => 1
  | n + 1 => xt (E n)
def Lgo : Nat → Nat → Nat → Nat → Nat
  | 0, _, _, _ => 0
  | f + 1, x, i, a => if x = a then i else Lgo f (xt x) (i + 1) a
def L (a : Nat) : Nat := Lgo 255 1 0 a
theorem E_small : ∀ n, n < 255 → 0 < E n ∧ E n < 256 := by decide +kernel
theorem L_E : ∀ n, n < 255 → L (E n) = n := by decide +kernel
theorem E_L : ∀ a, a < 256 → a ≠ 0 → L a < 255 ∧ E (L a) = a := by decide +kernel
theorem E_255 : E 255 = 1 := by decide +kernel
theorem E_inj {i j : Nat} (hi : i < 255) (hj : j < 255) (h : E i = E j) : i = j := by rw [← L_E i hi, ← L_E j hj, h]
theorem E_period : ∀ n, E (n + 255) = E n
  | 0 => E_255
  | n + 1 => by rw [show n + 1 + 255 = (n + 255) + 1 from by omega]; show xt (E (n + 255)) = xt (E n); rw [E_period n]
theorem E_mod (n : Nat) : E n = E (n % 255) := by
  have h : ∀ q r, E (r + 255 * q) = E r := by
    intro q
    induction q with
    | zero => intro r; rfl
    | succ q ih => intro r; rw [show r + 255 * (q + 1) = r + 255 * q + 255 from by omega, E_period, ih]
  have := h (n / 255) (n % 255)
  rwa [Nat.mod_add_div] at this
theorem E_lt (n : Nat) : 0 < E n ∧ E n < 256 := by rw [E_mod]; exact E_small _ (Nat.mod_lt _ (by omega))
end Go.Proofs.Ytoghhpkmficnmaa.GfMath

/- gf.New by its contract: a table of its own whose cells are the powers of 2 and the logs. -/
namespace Go.Proofs.Ytoghhpkmficnmaa.Al
open Go.RowKit Go.Proofs.Ytoghhpkmficnmaa.GfMath Go.Proofs.Ytoghhpkmficnmaa.Base Go.Proofs.YtoghhpkmficnmaaW.PrintWords Go.Proofs.YtoghhpkmficnmaaW.PrintLast Go.Proofs.YtoghhpkmficnmaaW.PrintMore
set_option linter.unusedVariables false
set_option linter.unusedSimpArgs false
noncomputable def Z74 : Array Value := match (Try.prog.info? 74).bind (·.zero) with | some (.agg cs) => cs | _ => #[]
theorem info74 : (Try.prog.info? 74).map (fun i => (i.zero, i.size, i.bytes)) = some (some (.agg Z74), 766, 2560) := by kernel_rfl
theorem Z74_size : Z74.size = 766 := by kernel_rfl
theorem zero74 (w : World) : (zeroValue 74).run Try.prog w = .ok (.agg Z74) w := by
  obtain ⟨i0, hi, hz0, -, -⟩ := info_parts info74
  simp [zeroValue, typeInfo, hi, hz0]
structure CsOk (k : Nat) (cs : Array Value) : Prop where
  size : cs.size = 766
  exp : ∀ j, j < k → cs[j]? = some (.int .u8 (E j)) ∧ cs[j + 255]? = some (.int .u8 (E j))
  log : ∀ j, j < k → cs[510 + E j]? = some (.int .i64 j)
theorem csOk_step {k : Nat} {cs : Array Value} (h : CsOk k cs) (hk : k < 255) (hE : 0 < E k ∧ E k < 256) : CsOk (k + 1) (((cs.setIfInBounds k (.int .u8 (E k))).setIfInBounds (k + 255) (.int .u8 (E k))).setIfInBounds (510 + E k) (.int .i64 k)) := by
  have hs := h.size
  refine ⟨by simpa using hs, fun j hj => ?_, fun j hj => ?_⟩
  · by_cases e : j = k
    · subst e
      constructor
      · rw [Array.getElem?_setIfInBounds_ne (by omega), Array.getElem?_setIfInBounds_ne (by omega), Array.getElem?_setIfInBounds_self_of_lt (by omega)]
      · rw [Array.getElem?_setIfInBounds_ne (by omega), Array.getElem?_setIfInBounds_self_of_lt (by simp; omega)]
    · have := h.exp j (by omega)
      rw [Array.getElem?_setIfInBounds_ne (by omega), Array.getElem?_setIfInBounds_ne (by omega), Array.getElem?_setIfInBounds_ne (by omega), Array.getElem?_setIfInBounds_ne (by omega), Array.getElem?_setIfInBounds_ne (by omega), Array.getElem?_setIfInBounds_ne (by omega)]
      exact this
  · by_cases e : j = k
    · subst e
      rw [Array.getElem?_setIfInBounds_self_of_lt (by simp; omega)]
    · have hne : E k ≠ E j := fun hc => e (E_inj (by omega) (by omega) hc.symm)
      have := h.log j (by omega)
      rw [Array.getElem?_setIfInBounds_ne (by omega), Array.getElem?_setIfInBounds_ne (by omega), Array.getElem?_setIfInBounds_ne (by omega)]
      exact this
theorem bits_xor_lit {n : Nat} (h : 255 < (n : Int) * 2) (h2 : n < 256) : Value.int .i64 (bits BinOp.xor IntKind.i64 ((n : Int) * 2) 285) = Value.int .i64 ((xt n : Nat) : Int) := by
  have := xor_i64_nat (2 * n) 285 (by omega) (by omega)
  unfold xt
  rw [if_neg (by omega), ← this]
  congr 2
  omega
def Tab (w : World) (g : Nat) : Prop := ∃ cs, w.heap[g]? = some (.cells cs 74 (0, 0)) ∧ CsOk 255 cs
set_option maxHeartbeats 8000000 in
set_option maxRecDepth 100000 in
theorem gf_New.calls (w : World) :
    Calls Try.prog 28 #[] w fun e' w' => ∃ g, e' = .returned (.pointer (some ⟨g, 0, none⟩)) ∧ w.heap.size ≤ g ∧ Tab w' g ∧ Below w.heap.size w w' := by
  have HZ := zero74
  go_enter Try.func28, Try.ntmps28
  go_wp2_with (first | ((with_reducible refine gate_dst (N := 5) rfl ?_); refine box_event ?hg (N := 5) ?hd (cs := Z74) (t := 74) ?hr ?_; (case hd => rfl); (case hg => rfl); (case hr => first | (go_simp; done) | (go_simp; rfl)); intro gb hg w1 hbox hb; have HG := Aside0.mk (Nat.le_of_eq hg.symm); have HX := Aside0.mk hbox; have HB := Aside0.mk hb; clear hg hbox hb))
  go_loopw [2, 6] (fun x i wr => ∃ k : Nat, k ≤ 255 ∧ x = .int .i64 (E k) ∧ i = .int .i64 k ∧ Aside0 (∃ cs, wr.heap[gb]? = some (.cells cs 74 (0, 0)) ∧ CsOk k cs) ∧ Aside0 (Below w.heap.size w wr)) (fun _ i _ => (255 - intOf i).toNat)
  case atStart => exact ⟨0, by omega, rfl, rfl, ⟨⟨Z74, HX.out, ⟨Z74_size, fun j hj => absurd hj (by omega), fun j hj => absurd hj (by omega)⟩⟩⟩, HB⟩
  case round =>
    obtain ⟨k, hk, rfl, rfl, HC, HBr⟩ := hrel
    by_cases hlt : k < 255
    · obtain ⟨cs, hcs, hok⟩ := HC.out
      have hE := E_small k hlt
      have HE := Aside0.mk hE
      have HOK := Aside0.mk hok
      have HCS := Aside0.mk hcs
      have q1 : k < cs.size := by rw [hok.size]; omega
      have q2 : k + 255 < cs.size := by rw [hok.size]; omega
      have q3 : 510 + E k < cs.size := by rw [hok.size]; omega
      have hx1 := (blk_cell hcs k).trans (Array.getElem?_eq_getElem q1)
      have hf1 := blk_frozen hcs k
      have e2 : ((k : Int) + 255).toNat = k + 255 := by omega
      have hx2 : ∀ u : Value, (wr.setCell ⟨gb, k, none⟩ u).cell? ⟨gb, ((k : Int) + 255).toNat, none⟩ = some cs[k + 255] := fun u => by
        rw [e2, blk_cell (blk_set hcs k u) (k + 255), Array.getElem?_setIfInBounds_ne (by omega)]
        exact Array.getElem?_eq_getElem q2
      have hf2 : ∀ u : Value, (wr.setCell ⟨gb, k, none⟩ u).frozen? ⟨gb, ((k : Int) + 255).toNat, none⟩ = false := fun u => blk_frozen (blk_set hcs k u) _
      clear e2
      clear hcs hok HC
      have b0 : (0 : Int) ≤ (k : Int) := by omega
      have b1 : (k : Int) < 510 := by omega
      have b2 : (0 : Int) ≤ (k : Int) + 255 := by omega
      have b3 : (k : Int) + 255 < 510 := by omega
      have w1 : IntKind.i64.wrap ((k : Int) + 255) = (k : Int) + 255 := by rw [IntKind.wrap_i64]; omega
      go_wp2_with fail
      go_region_held3 (fun w' => True) (go_keep) (fail)
      obtain ⟨U, eU⟩ : ∃ u, u = Value.int .u8 (IntKind.u8.wrap (E k : Int)) := ⟨_, rfl⟩
      have hU : U = .int .u8 (E k) := by rw [eU]; congr 1; unfold IntKind.wrap; simp [IntKind.signed, IntKind.bits]; have := HE.out; omega
      rw [← eU]
      obtain ⟨W1, eW⟩ : ∃ W, W = ((wr.setCell ⟨gb, k, none⟩ U).setCell ⟨gb, ((k : Int) + 255).toNat, none⟩ U).drew := ⟨_, rfl⟩
      rw [← eW]
      have HC1 : Aside0 (W1.heap[gb]? = some (.cells ((cs.setIfInBounds k U).setIfInBounds (k + 255) U) 74 (0, 0))) := ⟨by
        rw [eW, show ((k : Int) + 255).toNat = k + 255 from by omega]
        exact blk_drew (blk_set (blk_set HCS.out k U) (k + 255) U)⟩
      have HB1 : Aside0 (Below w.heap.size w W1) := ⟨by rw [eW]; exact below_drew1 (below_set (below_set HBr.out HG.out) HG.out)⟩
      have q3' : 510 + E k < ((cs.setIfInBounds k U).setIfInBounds (k + 255) U).size := by simpa using q3
      have hx3 := (blk_cell HC1.out (510 + E k)).trans (Array.getElem?_eq_getElem q3')
      have hf3 := blk_frozen HC1.out (510 + E k)
      have HU := Aside0.mk hU
      clear eW eU hU hx1 hx2 hf1 hf2 w1
      have b4 : (0 : Int) ≤ (E k : Int) := by omega
      have b5 : (E k : Int) < 256 := by omega
      go_wp2_with fail
      all_goals (
        have hok1 := csOk_step HOK.out (by omega) HE.out
        rw [← HU.out] at hok1
        refine ⟨⟨k + 1, by omega, ?_, rfl, ⟨_, blk_set HC1.out _ _, hok1⟩, ⟨below_set HB1.out HG.out⟩⟩, ?_⟩
        · rename_i hc
          first
            | (exact bits_xor_lit (n := E k) (by omega) hE.2)
            | (show Value.int .i64 ((E k : Int) * 2) = Value.int .i64 ((xt (E k) : Nat) : Int)
               rw [show xt (E k) = 2 * E k from by unfold xt; rw [if_pos (by omega)]]
               congr 1; omega)
        · simp [intOf]; omega)
    · obtain rfl : k = 255 := by omega
      obtain ⟨cs, hcs, hok⟩ := HC.out
      go_wp2_with fail
      go_ret
      exact ⟨_, rfl, HG.out, ⟨cs, hcs, hok⟩, HBr.out⟩
end Go.Proofs.Ytoghhpkmficnmaa.Al

/- The field's algebra: products bit by bit, sums, and what follows. -/
namespace Go.Proofs.Ytoghhpkmficnmaa.GfMath
def pm : Nat → Nat → Nat → Nat
  | 0, _, _ => 0
  | n + 1, a, b => (if b % 2 = 1 then a else 0) ^^^ pm n (xt a) (b / 2)
theorem xor_lt {a b : Nat} (ha : a < 256) (hb : b < 256) : a ^^^ b < 256 := Nat.xor_lt_two_pow (n := 8) ha hb
theorem xt_lt : ∀ a, a < 256 → xt a < 256 := by decide +kernel
theorem xt_xor : ∀ a, a < 256 → ∀ b, b < 256 → xt (a ^^^ b) = xt a ^^^ xt b := by decide +kernel
theorem pm_lt : ∀ (n a b : Nat), a < 256 → pm n a b < 256
  | 0, _, _, _ => by simp [pm]
  | n + 1, a, b, h => by
    unfold pm
    exact xor_lt (by split <;> omega) (pm_lt n _ _ (xt_lt a h))
theorem xor4 (a b c d : Nat) : (a ^^^ b) ^^^ (c ^^^ d) = (a ^^^ c) ^^^ (b ^^^ d) := by
  rw [Nat.xor_assoc, Nat.xor_assoc, ← Nat.xor_assoc b c d, Nat.xor_comm b c, Nat.xor_assoc c b d]
theorem pm_xor : ∀ (n a c b : Nat), a < 256 → c < 256 → pm n (a ^^^ c) b = pm n a b ^^^ pm n c b
  | 0, _, _, _, _, _ => by simp [pm]
  | n + 1, a, c, b, ha, hc => by
    simp only [pm]
    rw [xt_xor a ha c hc, pm_xor n _ _ _ (xt_lt a ha) (xt_lt c hc), xor4]
    by_cases h : b % 2 = 1
    · simp only [if_pos h]
    · simp only [if_neg h, Nat.xor_self]
theorem pm_zero_left : ∀ (n b : Nat), pm n 0 b = 0
  | 0, _ => rfl
  | n + 1, b => by
    simp only [pm, show xt 0 = 0 from rfl, pm_zero_left n]
    split <;> rfl
theorem pm_zero_right : ∀ (n a : Nat), pm n a 0 = 0
  | 0, _ => rfl
  | n + 1, a => by simp [pm, pm_zero_right n]
theorem pm_xt : ∀ (n a b : Nat), a < 256 → pm n (xt a) b = xt (pm n a b)
  | 0, _, _, _ => rfl
  | n + 1, a, b, h => by
    simp only [pm]
    rw [xt_xor _ (by split <;> omega) _ (pm_lt n _ _ (xt_lt a h)), pm_xt n (xt a) (b / 2) (xt_lt a h)]
    by_cases hb : b % 2 = 1
    · simp only [if_pos hb]
    · simp only [if_neg hb, show xt 0 = 0 from rfl]
theorem pm_one : ∀ b, b < 256 → pm 8 1 b = b := by decide +kernel
theorem pm_E (j : Nat) : ∀ i, pm 8 (E i) (E j) = E (i + j)
  | 0 => by rw [show E 0 = 1 from rfl, pm_one _ (E_lt j).2, Nat.zero_add]
  | i + 1 => by
    rw [show E (i + 1) = xt (E i) from rfl, pm_xt _ _ _ (E_lt i).2, pm_E j i, show i + 1 + j = i + j + 1 from by omega]
    rfl
def mulN (a b : Nat) : Nat := if a = 0 ∨ b = 0 then 0 else E (L a + L b)
theorem pm_mul {a b : Nat} (ha : a < 256) (hb : b < 256) : pm 8 a b = mulN a b := by
  unfold mulN
  by_cases h : a = 0 ∨ b = 0
  · rw [if_pos h]
    rcases h with rfl | rfl
    · exact pm_zero_left _ _
    · exact pm_zero_right _ _
  · rw [if_neg h, ← pm_E, (E_L a ha (by omega)).2, (E_L b hb (by omega)).2]
theorem mul_comm (a b : Nat) : mulN a b = mulN b a := by
  unfold mulN
  rw [Nat.add_comm (L a)]
  by_cases h : a = 0 ∨ b = 0
  · rw [if_pos h, if_pos h.symm]
  · rw [if_neg h, if_neg (fun hc => h hc.symm)]
theorem mul_lt (a b : Nat) : mulN a b < 256 := by unfold mulN; split; omega; exact (E_lt _).2
theorem mul_xor_left {a b c : Nat} (ha : a < 256) (hb : b < 256) (hc : c < 256) : mulN (a ^^^ b) c = mulN a c ^^^ mulN b c := by
  rw [← pm_mul (xor_lt ha hb) hc, pm_xor 8 a b c ha hb, pm_mul ha hc, pm_mul hb hc]
theorem mul_xor {a b c : Nat} (ha : a < 256) (hb : b < 256) (hc : c < 256) : mulN a (b ^^^ c) = mulN a b ^^^ mulN a c := by
  rw [mul_comm, mul_xor_left hb hc ha, mul_comm b, mul_comm c]
theorem mul_zero (a : Nat) : mulN a 0 = 0 := by unfold mulN; rw [if_pos (Or.inr rfl)]
theorem zero_mul (a : Nat) : mulN 0 a = 0 := by unfold mulN; rw [if_pos (Or.inl rfl)]
theorem L_one : L 1 = 0 := by decide
theorem L_two : L 2 = 1 := by decide +kernel
theorem mul_one {a : Nat} (ha : a < 256) : mulN a 1 = a := by
  unfold mulN
  by_cases h : a = 0
  · rw [if_pos (Or.inl h), h]
  · rw [if_neg (by omega), L_one, Nat.add_zero, (E_L a ha h).2]
theorem mul_eq_zero {a b : Nat} : mulN a b = 0 ↔ a = 0 ∨ b = 0 := by
  unfold mulN
  by_cases h : a = 0 ∨ b = 0
  · simp [h]
  · have := (E_lt (L a + L b)).1
    rw [if_neg h]
    constructor
    · intro hc; omega
    · intro hc; exact absurd hc h
theorem L_Emod (n : Nat) : L (E n) = n % 255 := by rw [E_mod, L_E _ (Nat.mod_lt _ (by omega))]
theorem E_congr {m n : Nat} (h : m % 255 = n % 255) : E m = E n := by rw [E_mod m, E_mod n, h]
theorem mul_nz {a b : Nat} (ha : a ≠ 0) (hb : b ≠ 0) : mulN a b = E (L a + L b) := by unfold mulN; rw [if_neg (by omega)]
theorem mul_EE (m n : Nat) : mulN (E m) (E n) = E (m + n) := by
  have h1 := (E_lt m).1
  have h2 := (E_lt n).1
  rw [mul_nz (by omega) (by omega), L_Emod, L_Emod]
  exact E_congr (by omega)
theorem mul_assoc {a b c : Nat} (ha : a < 256) (hb : b < 256) (hc : c < 256) : mulN (mulN a b) c = mulN a (mulN b c) := by
  by_cases h1 : a = 0
  · subst h1; rw [zero_mul, zero_mul, zero_mul]
  by_cases h2 : b = 0
  · subst h2; rw [mul_zero, zero_mul, mul_zero]
  by_cases h3 : c = 0
  · subst h3; rw [mul_zero, mul_zero, mul_zero]
  rw [← (E_L a ha h1).2, ← (E_L b hb h2).2, ← (E_L c hc h3).2, mul_EE, mul_EE, mul_EE, mul_EE, Nat.add_assoc]
end Go.Proofs.Ytoghhpkmficnmaa.GfMath

/- The field's functions by their contracts: products, quotients, inverses, powers, logs out of a table. -/
namespace Go.Proofs.Ytoghhpkmficnmaa.Al
open Go.RowKit Go.Proofs.Ytoghhpkmficnmaa.GfMath Go.Proofs.Ytoghhpkmficnmaa.Base Go.Proofs.YtoghhpkmficnmaaW.PrintWords Go.Proofs.YtoghhpkmficnmaaW.PrintLast Go.Proofs.YtoghhpkmficnmaaW.PrintMore
set_option linter.unusedVariables false
set_option linter.unusedSimpArgs false
def divN (a b : Nat) : Nat × Int := if b = 0 then (0, 1) else if a = 0 then (0, 0) else (E (L a + 255 - L b), 0)
def logN (a : Nat) : Int × Int := if a = 0 then (0, 1) else (L a, 0)
def expN (n : Int) : Nat := E (n % 255).toNat
theorem tab_exp {w : World} {g : Nat} (h : Tab w g) (n : Nat) (hn : n < 510) : w.cell? ⟨g, n, none⟩ = some (.int .u8 (E n)) := by
  obtain ⟨cs, hcs, hok⟩ := h
  rw [blk_cell hcs n]
  by_cases h1 : n < 255
  · exact (hok.exp n h1).1
  · have := (hok.exp (n - 255) (by omega)).2
    rw [show n - 255 + 255 = n from by omega] at this
    rw [this, ← E_period (n - 255), show n - 255 + 255 = n from by omega]
theorem tab_log {w : World} {g : Nat} (h : Tab w g) (a : Nat) (ha : a < 256) (h0 : a ≠ 0) : w.cell? ⟨g, 510 + a, none⟩ = some (.int .i64 (L a)) := by
  obtain ⟨cs, hcs, hok⟩ := h
  obtain ⟨h1, h2⟩ := E_L a ha h0
  rw [blk_cell hcs]
  have := hok.log (L a) h1
  rwa [h2] at this
theorem Tab.below {w w' : World} {g : Nat} (h : Tab w g) (hb : Below w.heap.size w w') : Tab w' g := by
  obtain ⟨cs, hcs, hok⟩ := h
  exact ⟨cs, blk_below hcs hb, hok⟩
theorem Tab.drewN {w : World} {g : Nat} (h : Tab w g) (n : Nat) : Tab (w.drewN n) g := h.below (pw_below_drewN (Below.refl _ _) n)
theorem Tab.alloc {w : World} {g : Nat} (h : Tab w g) (o : Obj) : Tab (w.alloc o) g := h.below (below_alloc (Below.refl _ _) o)
theorem Tab.lt {w : World} {g : Nat} (h : Tab w g) : g < w.heap.size := by
  obtain ⟨cs, hcs, _⟩ := h
  exact blk_lt hcs
set_option maxHeartbeats 8000000 in
set_option maxRecDepth 100000 in
theorem gf_Mul.calls (g a b : Nat) (w : World) (ht : Tab w g) (ha : a < 256) (hb : b < 256) :
    Calls Try.prog 36 #[.pointer (some ⟨g, 0, none⟩), .int .u8 a, .int .u8 b] w fun e w' => e = .returned (.int .u8 (mulN a b)) ∧ Drawn0 w w' := by
  by_cases ha0 : a = 0
  · subst ha0
    rw [show mulN 0 b = 0 from rfl]
    clear ht
    go_enter Try.func36, Try.ntmps36
    go_wp2
    go_ret
    exact ⟨rfl, by repeat (first | exact Drawn0.refl _ | apply Drawn0.step)⟩
  by_cases hb0 : b = 0
  · subst hb0
    rw [show mulN a 0 = 0 from by unfold mulN; rw [if_pos (Or.inr rfl)]]
    have c1 : ((a : Int) == 0) = false := by simp; omega
    clear ht
    go_enter Try.func36, Try.ntmps36
    go_wp2
    go_ret
    exact ⟨rfl, by repeat (first | exact Drawn0.refl _ | apply Drawn0.step)⟩
  have hx1 := tab_log ht a ha ha0
  have hx2 := tab_log ht b hb hb0
  have l1 := (E_L a ha ha0).1
  have l2 := (E_L b hb hb0).1
  have hx3 := tab_exp ht (L a + L b) (by omega)
  have hm : mulN a b = E (L a + L b) := by unfold mulN; rw [if_neg (by omega)]
  rw [hm]
  have c1 : ((a : Int) == 0) = false := by simp; omega
  have c2 : ((b : Int) == 0) = false := by simp; omega
  obtain ⟨la, ela⟩ : ∃ la : Int, (L a : Int) = la := ⟨_, rfl⟩
  obtain ⟨lb, elb⟩ : ∃ lb : Int, (L b : Int) = lb := ⟨_, rfl⟩
  have e3 : L a + L b = (la + lb).toNat := by omega
  have z1 : (0 : Int) ≤ (a : Int) := by omega
  have z2 : (0 : Int) ≤ (b : Int) := by omega
  have z3 : (a : Int) < 256 := by omega
  have z4 : (b : Int) < 256 := by omega
  have hs : (0 : Int) ≤ la + lb ∧ la + lb < 510 := by omega
  rw [e3] at hx3 ⊢
  rw [ela] at hx1
  rw [elb] at hx2
  generalize (E (la + lb).toNat : Int) = e at hx3 ⊢
  clear ht hm ela elb e3 l1 l2
  go_enter Try.func36, Try.ntmps36
  go_wp2
  go_quiet (fail)
  go_wp2
  go_ret
  exact ⟨rfl, by repeat (first | exact Drawn0.refl _ | apply Drawn0.step)⟩
set_option maxHeartbeats 8000000 in
set_option maxRecDepth 100000 in
theorem gf_Div.calls (g a b : Nat) (w : World) (ht : Tab w g) (ha : a < 256) (hb : b < 256) :
    Calls Try.prog 44 #[.pointer (some ⟨g, 0, none⟩), .int .u8 a, .int .u8 b] w fun e w' => e = .returned (.tuple #[.int .u8 (divN a b).1, .int .i64 (divN a b).2]) ∧ Drawn0 w w' := by
  by_cases hb0 : b = 0
  · subst hb0
    rw [show divN a 0 = (0, 1) from rfl]
    clear ht
    go_enter Try.func44, Try.ntmps44
    go_wp2
    go_ret2
    exact ⟨rfl, by repeat (first | exact Drawn0.refl _ | apply Drawn0.step)⟩
  by_cases ha0 : a = 0
  · subst ha0
    rw [show divN 0 b = (0, 0) from by unfold divN; rw [if_neg hb0, if_pos rfl]]
    have c1 : ((b : Int) == 0) = false := by simp; omega
    clear ht
    go_enter Try.func44, Try.ntmps44
    go_wp2
    go_ret2
    exact ⟨rfl, by repeat (first | exact Drawn0.refl _ | apply Drawn0.step)⟩
  have hx1 := tab_log ht a ha ha0
  have hx2 := tab_log ht b hb hb0
  have l1 := (E_L a ha ha0).1
  have l2 := (E_L b hb hb0).1
  have hx3 := tab_exp ht (L a + 255 - L b) (by omega)
  have hm : divN a b = (E (L a + 255 - L b), 0) := by unfold divN; rw [if_neg hb0, if_neg ha0]
  rw [hm]
  have c1 : ((a : Int) == 0) = false := by simp; omega
  have c2 : ((b : Int) == 0) = false := by simp; omega
  obtain ⟨la, ela⟩ : ∃ la : Int, (L a : Int) = la := ⟨_, rfl⟩
  obtain ⟨lb, elb⟩ : ∃ lb : Int, (L b : Int) = lb := ⟨_, rfl⟩
  have e3 : L a + 255 - L b = (la + 255 - lb).toNat := by omega
  have z1 : (0 : Int) ≤ (a : Int) := by omega
  have z2 : (0 : Int) ≤ (b : Int) := by omega
  have z3 : (a : Int) < 256 := by omega
  have z4 : (b : Int) < 256 := by omega
  have hs1 : (0 : Int) ≤ la ∧ la < 255 := by omega
  have hs : (0 : Int) ≤ la + 255 - lb := by omega
  have hs2 : la + 255 - lb < 510 := by omega
  rw [e3] at hx3 ⊢
  rw [ela] at hx1
  rw [elb] at hx2
  generalize (E (la + 255 - lb).toNat : Int) = e at hx3 ⊢
  clear ht hm ela elb e3 l1 l2
  go_enter Try.func44, Try.ntmps44
  go_wp2
  go_quiet (fail)
  go_wp2
  go_ret2
  exact ⟨rfl, by repeat (first | exact Drawn0.refl _ | apply Drawn0.step)⟩
set_option maxHeartbeats 8000000 in
set_option maxRecDepth 100000 in
theorem gf_Inv.calls (g a : Nat) (w : World) (ht : Tab w g) (ha : a < 256) :
    Calls Try.prog 30 #[.pointer (some ⟨g, 0, none⟩), .int .u8 a] w fun e w' => e = .returned (.tuple #[.int .u8 (divN 1 a).1, .int .i64 (divN 1 a).2]) ∧ Drawn0 w w' := by
  have HT := Aside0.mk ht
  clear ht
  go_enter Try.func30, Try.ntmps30
  go_wp2_with (go_at_call 44; refine (gf_Div.calls g 1 a _ HT.out (by omega) ha).mono ?_; rintro e w' ⟨rfl, nd, rfl⟩)
  go_ret2
  exact ⟨rfl, by repeat (first | exact Drawn0.refl _ | apply Drawn0.step)⟩
end Go.Proofs.Ytoghhpkmficnmaa.Al

/- One function of the program comes to what its plain twin says. This text began as the kit's own print (print.py, made by cprint.sh) and was turned by split.py: it is no printed file. -/
namespace Go.Proofs.Ytoghhpkmficnmaa.Al
open Go.RowKit Go.Proofs.YtoghhpkmficnmaaW.PrintWords Go.Proofs.YtoghhpkmficnmaaW.PrintLast Go.Proofs.YtoghhpkmficnmaaW.PrintMore
attribute [local go_sem] max2_int min2_int max_two min_two max_three min_three max_four min_four   -- for this text's walks alone
set_option linter.unusedVariables false
set_option linter.unusedSimpArgs false

attribute [local go_sem high] eqA24
/-! ### corncribref01_Mul: function 46 -/
def corncribref01_Mul.l0 : Nat → Int → Int → Int → Int → Option (Int)
  | 0, _, _, _, _ => none
  | k + 1, x5, x6, x7, x8 => if x8 < 8 then (if (Int.tmod x6 2) = 1 then (if (wrap64 (x5 * 2)) ≥ 256 then (corncribref01_Mul.l0 k (Go.bits .xor .i64 (wrap64 (x5 * 2)) 285) (wrap64 (Int.tdiv x6 2)) (Go.bits .xor .i64 x7 x5) (wrap64 (x8 + 1))) else (corncribref01_Mul.l0 k (wrap64 (x5 * 2)) (wrap64 (Int.tdiv x6 2)) (Go.bits .xor .i64 x7 x5) (wrap64 (x8 + 1)))) else (if (wrap64 (x5 * 2)) ≥ 256 then (corncribref01_Mul.l0 k (Go.bits .xor .i64 (wrap64 (x5 * 2)) 285) (wrap64 (Int.tdiv x6 2)) x7 (wrap64 (x8 + 1))) else (corncribref01_Mul.l0 k (wrap64 (x5 * 2)) (wrap64 (Int.tdiv x6 2)) x7 (wrap64 (x8 + 1))))) else (some ((x7) % 256))
def corncribref01_Mul.f (k : Nat) (a0 : Int) (a1 : Int) : Option (Int) := corncribref01_Mul.l0 k (wrap64 (a0)) (wrap64 (a1)) 0 0
theorem corncribref01_Mul.mono_l : ∀ k, (∀ y0 y1 y2 y3, LeO (corncribref01_Mul.l0 k y0 y1 y2 y3) (corncribref01_Mul.l0 (k + 1) y0 y1 y2 y3))
  | 0 => fun _ _ _ _ r h => by simp [corncribref01_Mul.l0] at h
  | k + 1 => by
    have ih0 := corncribref01_Mul.mono_l k
    · intro y0 y1 y2 y3
      unfold corncribref01_Mul.l0
      repeat' first
      | (with_reducible exact ih0 _ _ _ _)
      | (with_reducible exact LeO.refl _)
      | (with_reducible exact LeO.none _)
      | (with_reducible refine LeO.ite ?_ ?_)
      | (with_reducible refine LeO.bind ?_ (fun _ => ?_))
      | exact ih0 _ _ _ _
      | exact LeO.none _
      | refine LeO.ite ?_ ?_
      | refine LeO.bind ?_ (fun _ => ?_)
theorem corncribref01_Mul.mono : ∀ a0 a1 k, LeO (corncribref01_Mul.f k a0 a1) (corncribref01_Mul.f (k + 1) a0 a1) := by
  intro a0 a1 k
  have ih0 := corncribref01_Mul.mono_l k
  unfold corncribref01_Mul.f
  repeat' first
      | (with_reducible exact ih0 _ _ _ _)
      | (with_reducible exact LeO.refl _)
      | (with_reducible exact LeO.none _)
      | (with_reducible refine LeO.ite ?_ ?_)
      | (with_reducible refine LeO.bind ?_ (fun _ => ?_))
      | exact ih0 _ _ _ _
      | exact LeO.none _
      | refine LeO.ite ?_ ?_
      | refine LeO.bind ?_ (fun _ => ?_)
set_option maxHeartbeats 8000000 in
set_option maxRecDepth 100000 in
theorem corncribref01_Mul.calls (k : Nat) (a0 : Int) (a1 : Int) (r : Int) (w : World) (h : corncribref01_Mul.f k a0 a1 = some r) :
    Calls Try.prog 46 #[.int .u8 a0, .int .u8 a1] w fun e w' => e = .returned (.int .u8 r) ∧ Drawn0 w w' := by
  have H : (corncribref01_Mul.l0 k (wrap64 (a0)) (wrap64 (a1)) 0 0) = some r := h
  clear h
  have H' := Aside0.mk H
  clear H
  go_enter Try.func46, Try.ntmps46
  go_wp2
  go_loopg [5, 6, 7, 8] k (fun kq v5 v6 v7 v8 w' => ∃ (x5_1 : Int) (x6_1 : Int) (x7_1 : Int) (x8_1 : Int), v5 = .int .i64 x5_1 ∧ v6 = .int .i64 x6_1 ∧ v7 = .int .i64 x7_1 ∧ v8 = .int .i64 x8_1 ∧ Aside0 (corncribref01_Mul.l0 kq x5_1 x6_1 x7_1 x8_1 = some r) ∧ Aside0 (kq ≤ k) ∧ Drawn0 w w')
  case atStart => exact ⟨(wrap64 (a0)), (wrap64 (a1)), (0), (0), (by first | rfl | (simp; done) | (simp [*]; done)), (by first | rfl | (simp; done) | (simp [*]; done)), (by first | rfl | (simp; done) | (simp [*]; done)), (by first | rfl | (simp; done) | (simp [*]; done)), H', ⟨Nat.le_refl _⟩, by repeat (first | exact Drawn0.refl _ | apply Drawn0.step)⟩
  case round =>
    clear H'
    try clear p2
    obtain ⟨x5_1, x6_1, x7_1, x8_1, rfl, rfl, rfl, rfl, HA, HK1, ⟨m1, rfl⟩⟩ := hrel
    cases gk with
    | zero => exact absurd HA.out (by simp [corncribref01_Mul.l0])
    | succ k1 =>
      have H := HA.out
      clear HA
      simp only [corncribref01_Mul.l0] at H
      by_cases c3 : x8_1 < 8
      · rw [if_pos c3] at H
        have c3b0 : decide (x8_1 < 8) = true := decide_eq_true c3
        clear c3
        by_cases c4 : (Int.tmod x6_1 2) = 1
        · rw [if_pos c4] at H
          have c4b0 : ((Int.tmod x6_1 2) == 1) = true := beq_iff_eq.mpr c4
          have c4b1 : ((Int.tmod x6_1 2) != 1) = false := bne_eq_false_iff_eq.mpr c4
          clear c4
          by_cases c5 : (wrap64 (x5_1 * 2)) ≥ 256
          · rw [if_pos c5] at H
            have c5b0 : decide (256 ≤ (wrap64 (x5_1 * 2))) = true := decide_eq_true c5
            clear c5
            have H' := Aside0.mk H
            clear H
            go_wp2
            go_roundg k1
            case measure => have := HK1.out; omega
            case rel => exact ⟨(Go.bits .xor .i64 (wrap64 (x5_1 * 2)) 285), (wrap64 (Int.tdiv x6_1 2)), (Go.bits .xor .i64 x7_1 x5_1), (wrap64 (x8_1 + 1)), (by first | rfl | (simp; done) | (simp [*]; done)), (by first | rfl | (simp; done) | (simp [*]; done)), (by first | rfl | (simp; done) | (simp [*]; done)), (by first | rfl | (simp; done) | (simp [*]; done)), H', ⟨by have := HK1.out; omega⟩, by repeat (first | exact Drawn0.refl _ | apply Drawn0.step)⟩
          · rw [if_neg c5] at H
            have c5b0 : decide (256 ≤ (wrap64 (x5_1 * 2))) = false := decide_eq_false c5
            clear c5
            have H' := Aside0.mk H
            clear H
            go_wp2
            go_roundg k1
            case measure => have := HK1.out; omega
            case rel => exact ⟨(wrap64 (x5_1 * 2)), (wrap64 (Int.tdiv x6_1 2)), (Go.bits .xor .i64 x7_1 x5_1), (wrap64 (x8_1 + 1)), (by first | rfl | (simp; done) | (simp [*]; done)), (by first | rfl | (simp; done) | (simp [*]; done)), (by first | rfl | (simp; done) | (simp [*]; done)), (by first | rfl | (simp; done) | (simp [*]; done)), H', ⟨by have := HK1.out; omega⟩, by repeat (first | exact Drawn0.refl _ | apply Drawn0.step)⟩
        · rw [if_neg c4] at H
          have c4b0 : ((Int.tmod x6_1 2) == 1) = false := beq_eq_false_iff_ne.mpr c4
          have c4b1 : ((Int.tmod x6_1 2) != 1) = true := bne_iff_ne.mpr c4
          by_cases c6 : (wrap64 (x5_1 * 2)) ≥ 256
          · rw [if_pos c6] at H
            have c6b0 : decide (256 ≤ (wrap64 (x5_1 * 2))) = true := decide_eq_true c6
            clear c6
            have H' := Aside0.mk H
            clear H
            go_wp2
            go_roundg k1
            case measure => have := HK1.out; omega
            case rel => exact ⟨(Go.bits .xor .i64 (wrap64 (x5_1 * 2)) 285), (wrap64 (Int.tdiv x6_1 2)), (x7_1), (wrap64 (x8_1 + 1)), (by first | rfl | (simp; done) | (simp [*]; done)), (by first | rfl | (simp; done) | (simp [*]; done)), (by first | rfl | (simp; done) | (simp [*]; done)), (by first | rfl | (simp; done) | (simp [*]; done)), H', ⟨by have := HK1.out; omega⟩, by repeat (first | exact Drawn0.refl _ | apply Drawn0.step)⟩
          · rw [if_neg c6] at H
            have c6b0 : decide (256 ≤ (wrap64 (x5_1 * 2))) = false := decide_eq_false c6
            clear c6
            have H' := Aside0.mk H
            clear H
            go_wp2
            go_roundg k1
            case measure => have := HK1.out; omega
            case rel => exact ⟨(wrap64 (x5_1 * 2)), (wrap64 (Int.tdiv x6_1 2)), (x7_1), (wrap64 (x8_1 + 1)), (by first | rfl | (simp; done) | (simp [*]; done)), (by first | rfl | (simp; done) | (simp [*]; done)), (by first | rfl | (simp; done) | (simp [*]; done)), (by first | rfl | (simp; done) | (simp [*]; done)), H', ⟨by have := HK1.out; omega⟩, by repeat (first | exact Drawn0.refl _ | apply Drawn0.step)⟩
      · rw [if_neg c3] at H
        have c3b0 : decide (x8_1 < 8) = false := decide_eq_false c3
        clear c3
        obtain rfl := Option.some.inj H
        go_wp2
        go_ret
        exact ⟨by first | rfl | (simp; done) | (simp [*]; done), by repeat (first | exact Drawn0.refl _ | apply Drawn0.step)⟩

end Go.Proofs.Ytoghhpkmficnmaa.Al

/- One function of the program comes to what its plain twin says. This text began as the kit's own print (print.py, made by cprint.sh) and was turned by split.py: it is no printed file. -/
namespace Go.Proofs.Ytoghhpkmficnmaa.Al
open Go.RowKit Go.Proofs.YtoghhpkmficnmaaW.PrintWords Go.Proofs.YtoghhpkmficnmaaW.PrintLast Go.Proofs.YtoghhpkmficnmaaW.PrintMore
attribute [local go_sem] max2_int min2_int max_two min_two max_three min_three max_four min_four   -- for this text's walks alone
set_option linter.unusedVariables false
set_option linter.unusedSimpArgs false

attribute [local go_sem high] eqA24
/-! ### corncribref01_Inv: function 41 -/
def corncribref01_Inv.l0 : Nat → Int → Int → Int → Option (Int × Int)
  | 0, _, _, _ => none
  | k + 1, x0, x4, x5 => if x5 < 254 then ((corncribref01_Mul.f k x4 x0).bind fun t129 => (corncribref01_Inv.l0 k x0 t129 (wrap64 (x5 + 1)))) else (some (x4, 0))
def corncribref01_Inv.f (k : Nat) (a0 : Int) : Option (Int × Int) := if a0 = 0 then (some (0, 1)) else (corncribref01_Inv.l0 k a0 1 0)
theorem corncribref01_Inv.mono_l : ∀ k, (∀ y0 y1 y2, LeO (corncribref01_Inv.l0 k y0 y1 y2) (corncribref01_Inv.l0 (k + 1) y0 y1 y2))
  | 0 => fun _ _ _ r h => by simp [corncribref01_Inv.l0] at h
  | k + 1 => by
    have ih0 := corncribref01_Inv.mono_l k
    · intro y0 y1 y2
      unfold corncribref01_Inv.l0
      repeat' first
      | (with_reducible exact ih0 _ _ _)
      | (with_reducible exact corncribref01_Mul.mono _ _ _)
      | (with_reducible exact LeO.refl _)
      | (with_reducible exact LeO.none _)
      | (with_reducible refine LeO.ite ?_ ?_)
      | (with_reducible refine LeO.bind ?_ (fun _ => ?_))
      | exact ih0 _ _ _
      | exact corncribref01_Mul.mono _ _ _
      | exact LeO.none _
      | refine LeO.ite ?_ ?_
      | refine LeO.bind ?_ (fun _ => ?_)
theorem corncribref01_Inv.mono : ∀ a0 k, LeO (corncribref01_Inv.f k a0) (corncribref01_Inv.f (k + 1) a0) := by
  intro a0 k
  have ih0 := corncribref01_Inv.mono_l k
  unfold corncribref01_Inv.f
  repeat' first
      | (with_reducible exact ih0 _ _ _)
      | (with_reducible exact corncribref01_Mul.mono _ _ _)
      | (with_reducible exact LeO.refl _)
      | (with_reducible exact LeO.none _)
      | (with_reducible refine LeO.ite ?_ ?_)
      | (with_reducible refine LeO.bind ?_ (fun _ => ?_))
      | exact ih0 _ _ _
      | exact corncribref01_Mul.mono _ _ _
      | exact LeO.none _
      | refine LeO.ite ?_ ?_
      | refine LeO.bind ?_ (fun _ => ?_)
set_option maxHeartbeats 8000000 in
set_option maxRecDepth 100000 in
theorem corncribref01_Inv.calls (k : Nat) (a0 : Int) (r1 : Int) (r2 : Int) (w : World) (h : corncribref01_Inv.f k a0 = some (r1, r2)) :
    Calls Try.prog 41 #[.int .u8 a0] w fun e w' => e = .returned (.tuple #[.int .u8 r1, .int .i64 r2]) ∧ Drawn0 w w' := by
  have H : (if a0 = 0 then (some (0, 1)) else (corncribref01_Inv.l0 k a0 1 0)) = some (r1, r2) := h
  clear h
  by_cases c2 : a0 = 0
  · rw [if_pos c2] at H
    have c2b0 : (a0 == 0) = true := beq_iff_eq.mpr c2
    have c2b1 : (a0 != 0) = false := bne_eq_false_iff_eq.mpr c2
    clear c2
    simp only [Option.some.injEq, Prod.mk.injEq] at H
    obtain ⟨rfl, rfl⟩ := H
    go_enter Try.func41, Try.ntmps41
    go_wp2
    go_ret2
    exact ⟨by first | rfl | (simp; done) | (simp [*]; done), by repeat (first | exact Drawn0.refl _ | apply Drawn0.step)⟩
  · rw [if_neg c2] at H
    have c2b0 : (a0 == 0) = false := beq_eq_false_iff_ne.mpr c2
    have c2b1 : (a0 != 0) = true := bne_iff_ne.mpr c2
    have H' := Aside0.mk H
    clear H
    go_enter Try.func41, Try.ntmps41
    go_wp2
    go_loopg [4, 5] k (fun kq v4 v5 w' => ∃ (x4_1 : Int) (x5_1 : Int), v4 = .int .u8 x4_1 ∧ v5 = .int .i64 x5_1 ∧ Aside0 (corncribref01_Inv.l0 kq a0 x4_1 x5_1 = some (r1, r2)) ∧ Aside0 (kq ≤ k) ∧ Drawn0 w w')
    case atStart => exact ⟨(1), (0), (by first | rfl | (simp; done) | (simp [*]; done)), (by first | rfl | (simp; done) | (simp [*]; done)), H', ⟨Nat.le_refl _⟩, by repeat (first | exact Drawn0.refl _ | apply Drawn0.step)⟩
    case round =>
      clear H'
      (try clear c2); (try clear c2b0); (try clear c2b1); (try clear p2)
      obtain ⟨x4_1, x5_1, rfl, rfl, HA, HK1, ⟨m1, rfl⟩⟩ := hrel
      cases gk with
      | zero => exact absurd HA.out (by simp [corncribref01_Inv.l0])
      | succ k1 =>
        have H := HA.out
        clear HA
        simp only [corncribref01_Inv.l0] at H
        by_cases c3 : x5_1 < 254
        · rw [if_pos c3] at H
          have c3b0 : decide (x5_1 < 254) = true := decide_eq_true c3
          clear c3
          replace H := Option.bind_eq_some_iff.mp H
          obtain ⟨t129, A40, H⟩ := H
          replace H : (corncribref01_Inv.l0 k1 a0 t129 (wrap64 (x5_1 + 1))) = some (r1, r2) := H
          have A4 := Aside0.mk A40
          clear A40
          have H' := Aside0.mk H
          clear H
          go_wp2_with (first | ((with_reducible refine gate_callee (f := 46) rfl ?_); refine goesL_ (some 14) rfl rfl Try.func46 (by kernel_rfl) rfl #[.int .u8 x4_1, .int .u8 a0] rfl (by (try simp only [List.map_toArray, List.map_cons, List.map_nil]); first | done | rfl | (simp only [List.length_drop, List.length_take]; rfl)) ?_; (with_reducible refine (corncribref01_Mul.calls k1 x4_1 a0 t129 _ A4.out).mono ?_); rintro e w' ⟨rfl, ⟨nd, rfl⟩⟩; refine ⟨_, rfl, ?_⟩))
          go_roundg k1
          case measure => have := HK1.out; omega
          case rel => exact ⟨(t129), (wrap64 (x5_1 + 1)), (by first | rfl | (simp; done) | (simp [*]; done)), (by first | rfl | (simp; done) | (simp [*]; done)), H', ⟨by have := HK1.out; omega⟩, by repeat (first | exact Drawn0.refl _ | apply Drawn0.step)⟩
        · rw [if_neg c3] at H
          have c3b0 : decide (x5_1 < 254) = false := decide_eq_false c3
          clear c3
          simp only [Option.some.injEq, Prod.mk.injEq] at H
          obtain ⟨rfl, rfl⟩ := H
          go_wp2
          go_ret2
          exact ⟨by first | rfl | (simp; done) | (simp [*]; done), by repeat (first | exact Drawn0.refl _ | apply Drawn0.step)⟩

end Go.Proofs.Ytoghhpkmficnmaa.Al

/- The document's products, inverses, quotients, powers and logs come to those of the tables; all contracts over whole numbers. -/
namespace Go.Proofs.Ytoghhpkmficnmaa.GfRef
open Go.RowKit Go.Proofs.Ytoghhpkmficnmaa.GfMath Go.Proofs.Ytoghhpkmficnmaa.Base Go.Proofs.Ytoghhpkmficnmaa.Al Go.Proofs.YtoghhpkmficnmaaW.PrintWords Go.Proofs.YtoghhpkmficnmaaW.PrintLast Go.Proofs.YtoghhpkmficnmaaW.PrintMore
theorem Ev.succ {α : Type} {g : Nat → Option α} {r : α} (h : Ev (fun k => g (k + 1)) r) : Ev g r := Ev.step (fun _ => rfl) h
theorem xt_int {x : Nat} (h : x < 256) : (if wrap64 ((x : Int) * 2) ≥ 256 then Go.bits .xor .i64 (wrap64 ((x : Int) * 2)) 285 else wrap64 ((x : Int) * 2)) = ((xt x : Nat) : Int) := by
  rw [wrap_id (by omega) (by omega)]
  unfold xt
  by_cases h1 : x < 128
  · rw [if_neg (by omega), if_pos h1]; omega
  · rw [if_pos (by omega), if_neg h1, show (x : Int) * 2 = ((2 * x : Nat) : Int) from by omega]
    exact xor_i64_nat (2 * x) 285 (by omega) (by omega)
theorem rmul_l0 : ∀ (d i x y out : Nat), i + d = 8 → x < 256 → y < 256 → out < 256 → Ev (fun k => corncribref01_Mul.l0 k x y out i) ((out ^^^ pm d x y : Nat) : Int)
  | 0, i, x, y, out, h, hx, hy, ho => by
    refine Ev.succ ?_
    simp only [corncribref01_Mul.l0]
    refine Ev.neg (by omega) ?_
    rw [show ((out : Int) % 256) = ((out ^^^ pm 0 x y : Nat) : Int) from by simp only [pm, Nat.xor_zero]; omega]
    exact Ev.now _
  | d + 1, i, x, y, out, h, hx, hy, ho => by
    have e1 : wrap64 ((i : Int) + 1) = ((i + 1 : Nat) : Int) := by rw [wrap_id (by omega) (by omega)]; omega
    have e2 : wrap64 (Int.tdiv (y : Int) 2) = ((y / 2 : Nat) : Int) := by rw [Int.tdiv_eq_ediv_of_nonneg (by omega), wrap_id (by omega) (by omega)]; omega
    have e3 : Int.tmod (y : Int) 2 = ((y % 2 : Nat) : Int) := by rw [Int.tmod_eq_emod_of_nonneg (by omega)]; omega
    have hxt := xt_int hx
    have step : ∀ o' : Nat, o' < 256 → Ev (fun k => if wrap64 ((x : Int) * 2) ≥ 256 then corncribref01_Mul.l0 k (Go.bits .xor .i64 (wrap64 ((x : Int) * 2)) 285) ((y / 2 : Nat) : Int) o' ((i + 1 : Nat) : Int) else corncribref01_Mul.l0 k (wrap64 ((x : Int) * 2)) ((y / 2 : Nat) : Int) o' ((i + 1 : Nat) : Int)) ((o' ^^^ pm d (xt x) (y / 2) : Nat) : Int) := by
      intro o' ho'
      have ih := rmul_l0 d (i + 1) (xt x) (y / 2) o' (by omega) (xt_lt x hx) (by omega) ho'
      by_cases hc : wrap64 ((x : Int) * 2) ≥ 256
      · rw [if_pos hc] at hxt
        refine Ev.pos hc ?_
        rw [hxt]; exact ih
      · rw [if_neg hc] at hxt
        refine Ev.neg hc ?_
        rw [hxt]; exact ih
    refine Ev.succ ?_
    simp only [corncribref01_Mul.l0]
    rw [e1, e2, e3]
    refine Ev.pos (by omega) ?_
    unfold pm
    by_cases hb : y % 2 = 1
    · refine Ev.pos (by omega) ?_
      rw [if_pos hb, ← Nat.xor_assoc, xor_i64_nat out x (by omega) (by omega)]
      exact step (out ^^^ x) (xor_lt ho hx)
    · refine Ev.neg (by omega) ?_
      rw [if_neg hb, Nat.zero_xor]
      exact step out ho
theorem rmul_ev {a b : Nat} (ha : a < 256) (hb : b < 256) : Ev (fun k => corncribref01_Mul.f k a b) ((mulN a b : Nat) : Int) := by
  unfold corncribref01_Mul.f
  rw [wrap_id (n := (a : Int)) (by omega) (by omega), wrap_id (n := (b : Int)) (by omega) (by omega)]
  have := rmul_l0 8 0 a b 0 (by omega) ha hb (by omega)
  rw [Nat.zero_xor, pm_mul ha hb] at this
  exact this
theorem rinv_l0 {a : Nat} (ha : a < 256) (h0 : a ≠ 0) : ∀ (d i : Nat), i + d = 254 → Ev (fun k => corncribref01_Inv.l0 k a ((E (i * L a) : Nat) : Int) i) (((E (254 * L a) : Nat) : Int), 0)
  | 0, i, h => by
    obtain rfl : i = 254 := by omega
    refine Ev.succ ?_
    simp only [corncribref01_Inv.l0]
    exact Ev.neg (by omega) (Ev.now _)
  | d + 1, i, h => by
    have ih := rinv_l0 ha h0 d (i + 1) (by omega)
    have e1 : wrap64 ((i : Int) + 1) = ((i + 1 : Nat) : Int) := by rw [wrap_id (by omega) (by omega)]; omega
    have hm := rmul_ev (a := E (i * L a)) (b := a) (E_lt _).2 ha
    have e2 : mulN (E (i * L a)) a = E ((i + 1) * L a) := by
      conv => lhs; arg 2; rw [← (E_L a ha h0).2]
      rw [mul_EE, Nat.add_mul, Nat.one_mul]
    rw [e2] at hm
    refine Ev.succ ?_
    simp only [corncribref01_Inv.l0]
    rw [e1]
    exact Ev.pos (by omega) (Ev.bind hm ih)
theorem rinv_ev {a : Nat} (ha : a < 256) : Ev (fun k => corncribref01_Inv.f k a) (((divN 1 a).1 : Int), (divN 1 a).2) := by
  unfold corncribref01_Inv.f divN
  by_cases h0 : a = 0
  · subst h0
    exact Ev.pos rfl (Ev.now _)
  · rw [if_neg h0, if_neg (by omega)]
    refine Ev.neg (by omega) ?_
    have := rinv_l0 ha h0 254 0 (by omega)
    have hl := (E_L a ha h0).1
    rw [Nat.zero_mul] at this
    rw [L_one, E_congr (m := 0 + 255 - L a) (n := 254 * L a) (by omega)]
    exact this
def mulI (a b : Int) : Int := (mulN a.toNat b.toNat : Nat)
def divI (a b : Int) : Int := ((divN a.toNat b.toNat).1 : Nat)
def divE (a b : Int) : Int := (divN a.toNat b.toNat).2
def Byte (a : Int) : Prop := 0 ≤ a ∧ a < 256
theorem byte_mul (a b : Int) : Byte (mulI a b) := by have := mul_lt a.toNat b.toNat; unfold mulI Byte; omega
theorem byte_div (a b : Int) : Byte (divI a b) := by
  unfold divI divN Byte
  split
  · simp
  · split
    · simp
    · have := (E_lt (L a.toNat + 255 - L b.toNat)).2
      simp only
      omega
theorem byte_xor {a b : Int} (ha : Byte a) (hb : Byte b) : Byte (Go.bits .xor .u8 a b) ∧ Go.bits .xor .u8 a b = ((a.toNat ^^^ b.toNat : Nat) : Int) := by
  obtain ⟨a0, a1⟩ := ha
  obtain ⟨b0, b1⟩ := hb
  have e : Go.bits .xor .u8 a b = ((a.toNat ^^^ b.toNat : Nat) : Int) := u8_xor a b a0 a1 b0 b1
  refine ⟨?_, e⟩
  have hx := xor_lt (a := a.toNat) (b := b.toNat) (by omega) (by omega)
  rw [e]
  unfold Byte
  omega
section
variable (g : Nat) (a b : Int) (w : World)
theorem gMul (ht : Tab w g) (ha : Byte a) (hb : Byte b) : Calls Try.prog 36 #[.pointer (some ⟨g, 0, none⟩), .int .u8 a, .int .u8 b] w fun e w' => e = .returned (.int .u8 (mulI a b)) ∧ Drawn0 w w' := by
  obtain ⟨m, rfl⟩ := Int.eq_ofNat_of_zero_le ha.1
  obtain ⟨n, rfl⟩ := Int.eq_ofNat_of_zero_le hb.1
  exact gf_Mul.calls g m n w ht (by have := ha.2; omega) (by have := hb.2; omega)
theorem gInv (ht : Tab w g) (ha : Byte a) : Calls Try.prog 30 #[.pointer (some ⟨g, 0, none⟩), .int .u8 a] w fun e w' => e = .returned (.tuple #[.int .u8 (divI 1 a), .int .i64 (divE 1 a)]) ∧ Drawn0 w w' := by
  obtain ⟨m, rfl⟩ := Int.eq_ofNat_of_zero_le ha.1
  exact gf_Inv.calls g m w ht (by have := ha.2; omega)
theorem rMul (ha : Byte a) (hb : Byte b) : Calls Try.prog 46 #[.int .u8 a, .int .u8 b] w fun e w' => e = .returned (.int .u8 (mulI a b)) ∧ Drawn0 w w' := by
  obtain ⟨m, rfl⟩ := Int.eq_ofNat_of_zero_le ha.1
  obtain ⟨n, rfl⟩ := Int.eq_ofNat_of_zero_le hb.1
  obtain ⟨k, hk⟩ := Ev.rounds (rmul_ev (a := m) (b := n) (by have := ha.2; omega) (by have := hb.2; omega))
  exact corncribref01_Mul.calls k m n _ w hk
theorem rInv (ha : Byte a) : Calls Try.prog 41 #[.int .u8 a] w fun e w' => e = .returned (.tuple #[.int .u8 (divI 1 a), .int .i64 (divE 1 a)]) ∧ Drawn0 w w' := by
  obtain ⟨m, rfl⟩ := Int.eq_ofNat_of_zero_le ha.1
  obtain ⟨k, hk⟩ := Ev.rounds (rinv_ev (a := m) (by have := ha.2; omega))
  exact corncribref01_Inv.calls k m _ _ w hk
end
end Go.Proofs.Ytoghhpkmficnmaa.GfRef

/- matrix.Generator by its contract. -/
namespace Go.Proofs.Ytoghhpkmficnmaa.Al
open Go.RowKit Go.Proofs.Ytoghhpkmficnmaa.GfMath Go.Proofs.Ytoghhpkmficnmaa.GfRef Go.Proofs.Ytoghhpkmficnmaa.Base Go.Proofs.Ytoghhpkmficnmaa.Bytes Go.Proofs.Ytoghhpkmficnmaa.Grid Go.Proofs.YtoghhpkmficnmaaW.PrintWords Go.Proofs.YtoghhpkmficnmaaW.PrintLast Go.Proofs.YtoghhpkmficnmaaW.PrintMore
set_option linter.unusedVariables false
set_option linter.unusedSimpArgs false
def genI (k r j : Nat) : Int := if r < k then ixI r j else divI 1 ((r ^^^ j : Nat) : Int)
theorem genI_by (k r j : Nat) : 0 ≤ genI k r j ∧ genI k r j < 256 := by
  unfold genI
  split
  · unfold ixI; split <;> omega
  · exact byte_div _ _
def rowI (k r t j : Nat) : Int := if j < t then divI 1 ((r ^^^ j : Nat) : Int) else 0
theorem tab_blk {B : Nat} {W W1 : World} {v : Value} {m : Nat} {os : List (Option (Nat × Nat))} {rs : List (Nat × Nat)} {f : Nat → Nat → Int} (h : Grid B W v m os rs f) {g : Nat} (ht : Tab W g) (hg : W.grownBy W1 v.ownBlock) : Tab W1 g := by
  obtain ⟨cs, hcs, hok⟩ := ht
  exact ⟨cs, h.blk hcs (by decide) hg, hok⟩
theorem gen_bad (k m : Int) (w : World) (h : k < 1 ∨ 255 < k ∨ m < 0 ∨ 255 - k < m) :
    Calls Try.prog 12 #[.int .i64 k, .int .i64 m] w fun e w' => e = .returned (.tuple #[.agg #[.int .i64 0, .int .i64 0, .string ⟨#[]⟩], .int .i64 1]) ∧ Below w.heap.size w w' := by

  by_cases h1 : k < 1
  · clear h
    go_enter Try.func12, Try.ntmps12
    go_wp2
    exact bodyPost_ret (v := .tuple #[.agg #[.int .i64 0, .int .i64 0, .string ⟨#[]⟩], .int .i64 1]) (by simp [results, Try.results12, go_sem]) rfl ⟨rfl, (Below.refl _ _).alloc (Nat.le_refl _) _⟩
  · have d1 : decide (k < 1) = false := decide_eq_false h1
    by_cases h2 : 255 < k
    · clear h
      have d2 : decide (255 < k) = true := decide_eq_true h2
      go_enter Try.func12, Try.ntmps12
      go_wp2
      exact bodyPost_ret (v := .tuple #[.agg #[.int .i64 0, .int .i64 0, .string ⟨#[]⟩], .int .i64 1]) (by simp [results, Try.results12, go_sem]) rfl ⟨rfl, (Below.refl _ _).alloc (Nat.le_refl _) _⟩
    · have d2 : decide (255 < k) = false := decide_eq_false h2
      by_cases h3 : m < 0
      · clear h
        have d3 : decide (m < 0) = true := decide_eq_true h3
        go_enter Try.func12, Try.ntmps12
        go_wp2
        exact bodyPost_ret (v := .tuple #[.agg #[.int .i64 0, .int .i64 0, .string ⟨#[]⟩], .int .i64 1]) (by simp [results, Try.results12, go_sem]) rfl ⟨rfl, (Below.refl _ _).alloc (Nat.le_refl _) _⟩
      · have h4 : 255 - k < m := by omega
        clear h
        have d3 : decide (m < 0) = false := decide_eq_false h3
        have d4 : decide (255 - k < m) = true := decide_eq_true h4
        have b1 : 1 ≤ k := by omega
        have b2 : k ≤ 255 := by omega
        go_enter Try.func12, Try.ntmps12
        go_wp2
        exact bodyPost_ret (v := .tuple #[.agg #[.int .i64 0, .int .i64 0, .string ⟨#[]⟩], .int .i64 1]) (by simp [results, Try.results12, go_sem]) rfl ⟨rfl, (Below.refl _ _).alloc (Nat.le_refl _) _⟩
set_option maxHeartbeats 8000000 in
set_option maxRecDepth 100000 in
theorem gen_good (k m : Nat) (w : World) (h1 : 1 ≤ k) (h2 : k + m ≤ 255) :
    Calls Try.prog 12 #[.int .i64 k, .int .i64 m] w fun e w' => e = .returned (.tuple #[.agg #[.int .i64 (k + m : Nat), .int .i64 k, .string (cellsOf (k + m) k (genI k))], .int .i64 0]) ∧ Below w.heap.size w w' := by
  have hmk := print_make (P := Try.prog) 54 5 .u8 1 Try.underlying54 info5 (by decide) k (by omega)
  have HMK := Aside0.mk hmk
  clear hmk
  have d1 : decide ((k : Int) < 1) = false := decide_eq_false (by omega)
  have d2 : decide (255 < (k : Int)) = false := decide_eq_false (by omega)
  have d3 : decide ((m : Int) < 0) = false := decide_eq_false (by omega)
  have d4 : decide (255 - (k : Int) < (m : Int)) = false := decide_eq_false (by omega)
  have b1 : (k : Int) ≤ 255 := by omega
  go_enter Try.func12, Try.ntmps12
  go_wp2_with (first | ((with_reducible refine gate_dst (N := 4) rfl ?_); refine box_event ?hg (N := 4) ?hd (cs := #[.int .i64 0, .int .i64 0, .string ⟨#[]⟩]) (t := 24) ?hr ?_; (case hd => rfl); (case hg => rfl); (case hr => first | (go_simp; done) | (go_simp; rfl)); intro gq hg w1 hbox hb; have HG := Aside0.mk (Nat.le_of_eq hg.symm); have HK1 := Aside0.mk hbox; have HB1 := Aside0.mk hb; clear hg hbox hb) | (go_at_call 28; refine (gf_New.calls _).mono ?_; rintro e w2 ⟨gf, rfl, hge, ht, hb⟩; have HT2 := Aside0.mk ht; have HK2 := Aside0.mk (blk_below HK1.out hb); have HB2 := Aside0.mk (below_step HB1.out hb); clear hge ht hb) | (go_at_call 29; refine (one_calls k _ (by omega) (by omega)).mono ?_; rintro e w3 ⟨g0, cap, rs, rfl, hrl, hG, hb⟩; have HRL := Aside0.mk hrl; have HG3 := Aside0.mk (hG.lower HB2.out.size); have HT3 := Aside0.mk (Tab.below HT2.out hb); have HK3 := Aside0.mk (blk_below HK2.out hb); have HB3 := Aside0.mk (below_step HB2.out hb); clear hrl hG hb))
  go_loopw [7, 8, 9, 10, 32] (fun v7 v8 v9 v10 v32 wr => ∃ (i : Nat) (rs : List (Nat × Nat)) (g0 cap : Nat), v32 = .int .i64 i ∧ v7 = .slice (some ⟨g0, 0, none⟩) (k + i) cap ∧ i ≤ m ∧ Aside0 (rs.length = k + i) ∧ Aside0 (Grid w.heap.size wr (.slice (some ⟨g0, 0, none⟩) (k + i) cap) k (rs.map some) rs (genI k)) ∧ Aside0 (Tab wr gf) ∧ Aside0 (wr.heap[gq]? = some (.cells #[.int .i64 0, .int .i64 0, .string ⟨#[]⟩] 24 (0, 0))) ∧ Aside0 (Below w.heap.size w wr)) (fun _ _ _ _ v32 _ => m - (intOf v32).toNat)
  case atStart => exact ⟨0, rs, g0, cap, rfl, rfl, Nat.zero_le _, HRL, ⟨HG3.out.congr fun i j hi _ => by have := HRL.out; unfold genI; rw [if_pos (by omega)]⟩, HT3, HK3, HB3⟩
  case round =>
    obtain ⟨i, rs, g0, cap, rfl, rfl, hi, HRL, HG3, HT3, HK3, HB3⟩ := hrel
    obtain ⟨wo, rfl⟩ : ∃ wo : World, wo = wr := ⟨_, rfl⟩
    by_cases hlt : i < m
    · have hmk := HMK.out
      go_upto_block 2 with (fail)
      have HR0 := br_lit wo (madeCells #[.int .u8 0] k) k (fun j hj => made_get _ _ _ hj)
      have HBW := Aside0.mk (below_alloc (Below.refl wo.heap.size wo) (.cells (madeCells #[.int .u8 0] k) 5))
      obtain ⟨W1, hW1⟩ : ∃ W, W = wo.alloc (.cells (madeCells #[.int .u8 0] k) 5) := ⟨_, rfl⟩
      rw [← hW1] at HR0 HBW ⊢
      obtain ⟨rb, hrb⟩ : ∃ r, r = wo.heap.size := ⟨_, rfl⟩
      have HRB := Aside0.mk hrb
      rw [← hrb] at HR0 ⊢
      have HR1 := Aside0.mk HR0
      clear hW1 hrb HR0 hmk
      go_wp2
      go_loopw [10, 39] (fun v10 v39 wr => ∃ t : Nat, v39 = .int .i64 t ∧ t ≤ k ∧ Aside0 (Br wr rb k (rowI k (k + i) t)) ∧ Aside0 (Below wo.heap.size wo wr)) (fun _ v39 _ => k - (intOf v39).toNat)
      case atStart => exact ⟨0, rfl, Nat.zero_le _, ⟨HR1.out.congr fun j _ => by simp [rowI]⟩, HBW⟩
      case round =>
        obtain ⟨t, rfl, ht, HR2, HBW2⟩ := hrel
        clear HR1 HBW
        by_cases htl : t < k
        · have hxl : (k + i) ^^^ t < 2 ^ 8 := Nat.xor_lt_two_pow (by omega) (by omega)
          have hx := xor_i64_nat (k + i) t (by omega) (by omega)
          rw [show ((k + i : Nat) : Int) = (k : Int) + (i : Int) from by push_cast; rfl] at hx
          obtain ⟨x, hxe⟩ : ∃ x, x = (k + i) ^^^ t := ⟨_, rfl⟩
          rw [← hxe] at hx hxl
          have hw8 : (x : Int) % 256 = (x : Int) := by omega
          have hby : Byte (x : Int) := ⟨by omega, by omega⟩
          have HT4 := Aside0.mk (HT3.out.below HBW2.out)
          have HXE := Aside0.mk hxe
          have HBY := Aside0.mk hby
          have hc := HR2.out.cell htl
          have hf := HR2.out.frozen htl
          clear hxe hby hxl
          go_wp2_with (go_at_call 30; refine (gInv gf _ _ HT4.out HBY.out).mono ?_; rintro e w' ⟨rfl, nd, rfl⟩)
          go_roundw
          case rel =>
            refine ⟨t + 1, by go_num, htl, ⟨((HR2.out.keep rfl : Br (wr.drewN nd) rb k _).set htl _).congr fun j hj => ?_⟩, ⟨below_set (pw_below_drewN HBW2.out nd) (by have := HRB.out; omega)⟩⟩
            unfold rowI
            by_cases e : j = t
            · rw [if_pos e, if_pos (by omega), e, HXE.out]
            · rw [if_neg e]
              by_cases e2 : j < t
              · rw [if_pos e2, if_pos (by omega)]
              · rw [if_neg e2, if_neg (by omega)]
          case measure => simp [intOf]; omega
        · obtain rfl : t = k := by omega
          have HO := Aside0.mk (HG3.out.below HBW2.out)
          have HBO := Aside0.mk (below_step HB3.out HBW2.out)
          have HR3 := Aside0.mk (HR2.out.congr (f' := fun j => divI 1 (((t + i) ^^^ j : Nat) : Int)) fun j hj => by unfold rowI; rw [if_pos hj])
          have HT4 := Aside0.mk (HT3.out.below HBW2.out)
          have HK4 := Aside0.mk (blk_below HK3.out HBW2.out)
          clear htl
          go_wp2_with ((with_reducible refine gate_builtin (b := .append) (xs := #[.tmp 57, .tmp 59]) rfl ?_); at_builtin; refine Kd.R_append (kG t) (w0 := w) w.heap.size rfl (.tmp 57) (.tmp 59) 52 54 (.slice none 0 0) 24 rfl Try.underlying52 info54 rfl Nat.one_pos (by omega) (.slice (some ⟨g0, 0, none⟩) (t + i) cap) (rs.map some) (some (rb, t)) [.slice (some ⟨rb, 0, none⟩) t t] (fun _ => True) (fun _ => False) rfl rfl ?aP (fun _ hk => hk.elim) (fun _ _ => trivial) HO.out.out HBO.out HBO.out.size ?aL ?_; (case aP => exact rfl); (case aL => have := HRL.out; simp only [List.length_map]; omega); intro v1 w1 ho hb hg hat; obtain ⟨g1, cap1, e1, _, _, _⟩ := Kd.R_form ho (by simp); have hlen : (rs.map some ++ [some (rb, t)]).length = t + (i + 1) := (by have := HRL.out; simp only [List.length_append, List.length_map, List.length_singleton]; omega); rw [hlen] at e1; have HG5 := Aside0.mk (HO.out.append (fun a p hp => by have := HG3.out.lt a p hp; have := HRB.out; omega) HR3.out (by have := HRB.out; have := HB3.out.size; omega) ho hg); subst e1; have HK5 := Aside0.mk (HO.out.blk HK4.out (by decide) hg); have HT5 := Aside0.mk (tab_blk HO.out HT4.out hg); have HB5 := Aside0.mk hb; clear ho hb hg hat hlen)
          go_roundw
          case rel =>
            refine ⟨i + 1, _, g1, cap1, by go_num, rfl, hlt, ⟨by have := HRL.out; simp only [List.length_append, List.length_singleton]; omega⟩, ⟨HG5.out.congr fun a b ha hb => ?_⟩, HT5, HK5, HB5⟩
            have := HRL.out
            split
            · rename_i he
              rw [he, this]
              unfold genI
              rw [if_neg (by omega)]
            · rfl
          case measure => simp [intOf]; omega
    · obtain rfl : i = m := by omega
      have HRW := Aside0.mk (HG3.out.rows HRL.out)
      have HCP := Aside0.mk (Kd.R_reads' HG3.out.out).2.1
      go_wp2_with (go_at_call 31; refine (matrix_calls g0 (k + i) k cap (genI k) _ (by omega) (by omega) (by omega) (by omega) HRW.out HCP.out (fun a b _ _ => genI_by k a b)).mono ?_; rintro e w3 ⟨rfl, hb⟩; have hk3 := blk_below HK3.out hb; have HBf := Aside0.mk (below_step HB3.out hb); have hq0 : w3.cell? ⟨gq, 0, none⟩ = some (.int .i64 0) := (blk_cell hk3 0).trans rfl; have hq1 : w3.cell? ⟨gq, 1, none⟩ = some (.int .i64 0) := (blk_cell hk3 1).trans rfl; have hq2 : w3.cell? ⟨gq, 2, none⟩ = some (.string ⟨#[]⟩) := (blk_cell hk3 2).trans rfl; have hz0 := blk_frozen hk3 0; have hz1 := blk_frozen hk3 1; have hz2 := blk_frozen hk3 2; have HKf := Aside0.mk hk3; clear hk3 hb)
      have hb1 := blk_set (blk_set (blk_set HKf.out 0 (.int .i64 (k + i : Nat))) 1 (.int .i64 k)) 2 (.string (cellsOf (k + i) k (genI k)))
      have HE := Aside0.mk (below_set (j := 2) (v := .string (cellsOf (k + i) k (genI k))) (below_set (j := 1) (v := .int .i64 k) (below_set (j := 0) (v := .int .i64 (k + i : Nat)) HBf.out HG.out) HG.out) HG.out)
      exact bodyPost_ret (results_ct rfl _ _ gq 24 #[.int .i64 (k + i : Nat), .int .i64 k, .string (cellsOf (k + i) k (genI k))] (0, 0) _ rfl hb1 Try.underlying24 rfl (by kernel_rfl)) rfl ⟨rfl, HE.out⟩
end Go.Proofs.Ytoghhpkmficnmaa.Al

/- matrix.of by its contract: a matrix's rows, each in a block of its own. -/
namespace Go.Proofs.Ytoghhpkmficnmaa.Al
open Go.RowKit Go.Proofs.Ytoghhpkmficnmaa.Base Go.Proofs.Ytoghhpkmficnmaa.Bytes Go.Proofs.Ytoghhpkmficnmaa.Grid Go.Proofs.YtoghhpkmficnmaaW.PrintWords Go.Proofs.YtoghhpkmficnmaaW.PrintLast Go.Proofs.YtoghhpkmficnmaaW.PrintMore
set_option linter.unusedVariables false
set_option linter.unusedSimpArgs false
set_option maxHeartbeats 8000000 in
set_option maxRecDepth 100000 in
theorem of_calls (r c : Nat) (s : ByteArray) (w : World) (hr0 : 1 ≤ r) (hr1 : r ≤ 255) (hc0 : 1 ≤ c) (hc1 : c ≤ 255) (hs : s.size = r * c) :
    Calls Try.prog 33 #[.agg #[.int .i64 r, .int .i64 c, .string s]] w fun e w' => ∃ (v : Value) (rs : List (Nat × Nat)), e = .returned v ∧ rs.length = r ∧ Grid w.heap.size w' v c (rs.map some) rs (fun i j => bt s ((i * c + j : Nat) : Int)) ∧ Below w.heap.size w w' := by
  have HB := Aside0.mk (Below.refl w.heap.size w)
  have HS := Aside0.mk hs
  have hcv := fun (s : ByteArray) (W : World) => print_bytes (P := Try.prog) 9 54 5 Try.underlying9 Try.underlying54 Try.underlying5 s W
  have HCV := Aside0.mk hcv
  clear hs hcv
  go_enter Try.func33, Try.ntmps33
  go_wp2_with (first | ((with_reducible refine gate_dst (N := 1) rfl ?_); refine box_event ?hg (N := 1) ?hd (cs := #[.int .i64 r, .int .i64 c, .string s]) (t := 24) ?hr ?_; (case hd => rfl); (case hg => rfl); (case hr => first | (go_simp; done) | (go_simp; rfl)); intro gb hg w1 hbox hb; have hf0 : w1.cell? ⟨gb, 0, none⟩ = some (.int .i64 r) := (blk_cell hbox 0).trans rfl; have HK := Aside0.mk hbox; have HB1 := Aside0.mk hb; clear hg hbox hb) | ((with_reducible refine gate_dst (N := 7) rfl ?_); refine Kd.R_make (kG c) (w0 := w) w.heap.size 54 rfl (N := 7) rfl 52 (.tmp 6) (.tmp 6) rfl (r : Int) rfl rfl Try.underlying52 (.slice none 0 0) 24 info54 rfl Nat.one_pos (by omega) none (okp := fun _ => False) (ok := fun _ => True) ?hz (fun _ h => h.elim) trivial (by omega) ?hl HB1.out HB1.out.size ?_; (case hz => exact rfl); (case hl => omega); intro v2 w2 ho hb2 hgr hat; obtain ⟨g0, cap0, e0, hge, hlt, cells, hcc⟩ := Kd.R_form ho (by simp; omega); subst e0; simp only [List.length_replicate, Int.toNat_natCast] at ho ⊢; have HGE := Aside0.mk hge; clear hge hlt hcc; have HO := Aside0.mk ho; have HB2 := Aside0.mk hb2; have HK2 := Aside0.mk (blk_grown HK.out hgr (by simp)); clear ho hb2 hgr hat))
  clear hf0
  go_loopw [4, 10] (fun v4 v10 wr => ∃ (k : Nat) (rs : List (Nat × Nat)), v10 = .int .i64 k ∧ k ≤ r ∧ Aside0 (rs.length = k) ∧ Aside0 (Grid w.heap.size wr (.slice (some ⟨g0, 0, none⟩) r cap0) c (gpart rs r) rs (fun i j => bt s ((i * c + j : Nat) : Int))) ∧ Aside0 (wr.heap[gb]? = some (.cells #[.int .i64 r, .int .i64 c, .string s] 24 (0, 0))) ∧ Aside0 (Below w.heap.size w wr)) (fun _ v10 _ => r - (intOf v10).toNat)
  case atStart => exact ⟨0, [], rfl, Nat.zero_le _, ⟨rfl⟩, ⟨⟨by rw [gpart_nil]; exact HO.out, fun i p hp => by simp at hp, by simp⟩⟩, HK2, HB2⟩
  case round =>
    obtain ⟨k, rs, rfl, hk, HL, HG, HK3, HB3⟩ := hrel
    by_cases hlt : k < r
    · have hkc : (k + 1) * c ≤ r * c := Nat.mul_le_mul_right _ hlt
      have hkc2 : (k + 1) * c = k * c + c := Nat.succ_mul _ _
      have hrc : r * c ≤ 255 * 255 := Nat.mul_le_mul hr1 hc1
      have hss := HS.out
      rw [hkc2, ← hss] at hkc
      obtain ⟨P, hP⟩ : ∃ P : Int, P = ((k * c : Nat) : Int) := ⟨_, rfl⟩
      obtain ⟨Q, hQ⟩ : ∃ Q : Int, Q = ((k * c + c : Nat) : Int) := ⟨_, rfl⟩
      have e1 : IntKind.i64.wrap ((k : Int) * (c : Int)) = P := by rw [hP, IntKind.wrap_i64, ← Int.natCast_mul]; omega
      have e2 : IntKind.i64.wrap (((k : Int) + 1) * (c : Int)) = Q := by
        rw [hQ, ← hkc2, IntKind.wrap_i64, show ((k : Int) + 1) * (c : Int) = (((k + 1) * c : Nat) : Int) from by push_cast; rfl]; omega
      have p1 : (0 ≤ P) = True := eq_true (by omega)
      have p2 : (P ≤ Q) = True := eq_true (by omega)
      have p3 : (Q ≤ (s.size : Int)) = True := eq_true (by omega)
      have d1 : decide (0 ≤ P) = true := decide_eq_true (by omega)
      have d2 : decide (P ≤ Q) = true := decide_eq_true (by omega)
      have d3 : decide (Q ≤ (s.size : Int)) = true := decide_eq_true (by omega)
      have hf1 : wr.cell? ⟨gb, 1, none⟩ = some (.int .i64 c) := (blk_cell HK3.out 1).trans rfl
      have hf2 : wr.cell? ⟨gb, 2, none⟩ = some (.string s) := (blk_cell HK3.out 2).trans rfl
      have HP := Aside0.mk hP
      have HQ := Aside0.mk hQ
      have HPC := Aside0.mk hkc
      clear hP hQ hkc hkc2 hrc hss
      have hcv := HCV.out
      have hxs : (s.extract P.toNat Q.toNat).size = c := by rw [HP.out, HQ.out]; have := HPC.out; simp; omega
      have HXS := Aside0.mk hxs
      have HG1 := Aside0.mk (HG.out.below (bytes_below (Below.refl _ wr) (Nat.le_refl _) 5 (s.extract P.toNat Q.toNat)))
      obtain ⟨hoc, hof⟩ := HG1.out.outer hlt
      clear hxs
      go_wp2
      go_roundw
      case rel =>
        have hn : Q.toNat - P.toNat = c := by rw [HP.out, HQ.out]; omega
        rw [hn]
        have hb := br_conv wr (s.extract P.toNat Q.toNat)
        rw [HXS.out] at hb
        have hG2 := HG1.out.put HG.out.lt hb HB3.out.size k (grownCap wr c 0 5)
        have hL := HL.out
        refine ⟨k + 1, rs ++ [(wr.heap.size, grownCap wr c 0 5)], by go_num, hlt, ⟨by simp [hL]⟩, ⟨?_⟩, ⟨?_⟩, ⟨?_⟩⟩
        · have hp := gpart_set (rs := rs) (n := r) (by omega) (wr.heap.size, grownCap wr c 0 5)
          rw [hL] at hp hG2
          rw [← hp]
          refine hG2.congr fun i j hi hj => ?_
          split
          · rename_i he
            rw [he, HP.out, HQ.out, Int.toNat_natCast, Int.toNat_natCast]
            exact bt_extract s (k * c) c HPC.out j hj
          · rfl
        · obtain ⟨cells, hc⟩ := Kd.R_typed HG.out.out g0 (by simp [Value.ownBlock])
          exact blk_far (blk_below HK3.out (bytes_below (Below.refl _ wr) (Nat.le_refl _) 5 _)) (blk_ne HK3.out hc (by decide)) _
        · exact below_set (bytes_below HB3.out HB3.out.size 5 _) HGE.out
      case measure => simp [intOf]; omega
    · obtain rfl : k = r := by omega
      go_wp2
      go_ret
      refine ⟨_, rs, rfl, HL.out, ?_, HB3.out⟩
      have := HG.out
      rwa [gpart_full HL.out] at this
end Go.Proofs.Ytoghhpkmficnmaa.Al

/- One function of the program comes to what its plain twin says. This text began as the kit's own print (print.py, made by cprint.sh) and was turned by split.py: it is no printed file. -/
namespace Go.Proofs.Ytoghhpkmficnmaa.Al
open Go.RowKit Go.Proofs.YtoghhpkmficnmaaW.PrintWords Go.Proofs.YtoghhpkmficnmaaW.PrintLast Go.Proofs.YtoghhpkmficnmaaW.PrintMore
attribute [local go_sem] max2_int min2_int max_two min_two max_three min_three max_four min_four   -- for this text's walks alone
set_option linter.unusedVariables false
set_option linter.unusedSimpArgs false

attribute [local go_sem high] eqA24
/-! ### matrix_Check: function 18 -/
def matrix_Check.f (a0_0 : Int) (a0_1 : Int) (a0_2 : ByteArray) : Option (Int) := if (mn a0_0 a0_1) < 1 then (some 4) else (if (mx a0_0 a0_1) > 255 then (some 4) else (if (a0_2.size : Int) = (wrap64 (a0_0 * a0_1)) then (some 0) else (some 4)))
set_option maxHeartbeats 8000000 in
set_option maxRecDepth 100000 in
theorem matrix_Check.calls (a0_0 : Int) (a0_1 : Int) (a0_2 : ByteArray) (r : Int) (w : World) (h : matrix_Check.f a0_0 a0_1 a0_2 = some r) :
    Calls Try.prog 18 #[.agg #[.int .i64 a0_0, .int .i64 a0_1, .string a0_2]] w fun e w' => e = .returned (.int .i64 r) ∧ Below w.heap.size w w' := by
  have hu24 := Try.underlying24
  have HB := Aside0.mk (Below.refl w.heap.size w)
  have H : (if (mn a0_0 a0_1) < 1 then (some 4) else (if (mx a0_0 a0_1) > 255 then (some 4) else (if (a0_2.size : Int) = (wrap64 (a0_0 * a0_1)) then (some 0) else (some 4)))) = some r := h
  clear h
  obtain ⟨ji2, hji2⟩ : ∃ j_ : Int, (mn a0_0 a0_1) = j_ := ⟨_, rfl⟩
  replace H : (if (ji2) < 1 then (some 4) else (if (mx a0_0 a0_1) > 255 then (some 4) else (if (a0_2.size : Int) = (wrap64 (a0_0 * a0_1)) then (some 0) else (some 4)))) = some r := by first | (rw [hji2] at H; exact H) | (simp only [hji2] at H ⊢; exact H)
  have hji2_ : (if a0_1 < a0_0 then a0_1 else a0_0) = ji2 := hji2
  by_cases c3 : (ji2) < 1
  · rw [if_pos c3] at H
    have c3b0 : decide ((ji2) < 1) = true := decide_eq_true c3
    clear c3
    obtain rfl := Option.some.inj H
    go_enter Try.func18, Try.ntmps18
    go_wp2_with (first | ((with_reducible refine gate_dst (N := 1) rfl ?_); (try (refine gate_guard (by rfl) ?_; dsimp only)); refine box_event ?hg (N := 1) ?hd (cs := #[.int .i64 a0_0, .int .i64 a0_1, .string a0_2]) (t := 24) ?hr ?_; (case hd => rfl); (case hg => rfl); (case hr => first | (go_simp; done) | (go_simp; rfl)); intro gb146 hg w4 hbox hb; have n0_ := Aside0.mk (below_step (by repeat (first | (with_reducible first | exact HB.out | apply below_alloc | apply pw_below_drewN | apply below_drew1) | exact HB.out)) hb); have n1_ := Aside0.mk (hbox); have n2_ := Aside0.mk ((by rw [hg]; exact (below_size (by repeat (first | (with_reducible first | exact HB.out | apply below_alloc | apply pw_below_drewN | apply below_drew1) | exact HB.out))) : w.heap.size ≤ gb146)); have n3_ := Aside0.mk ((by rw [hg]; exact (below_size (by repeat (first | (with_reducible first | exact HB.out | apply below_alloc | apply pw_below_drewN | apply below_drew1) | exact HB.out))) : w.heap.size ≤ gb146)); clear HB; have HB := n0_; have BK146 := n1_; have GW146 := n2_; have GE146 := n3_; clear n0_ n1_ n2_ n3_; clear hb hbox hg; have hcz5_0 : w4.cell? ⟨gb146, 0, none⟩ = some (.int .i64 a0_0) := (blk_cell BK146.out 0).trans rfl; have hcz5_1 : w4.cell? ⟨gb146, 1, none⟩ = some (.int .i64 a0_1) := (blk_cell BK146.out 1).trans rfl; have hcz5_2 : w4.cell? ⟨gb146, 2, none⟩ = some (.string a0_2) := (blk_cell BK146.out 2).trans rfl; have hfz5_0 := blk_frozen BK146.out 0; have hfz5_1 := blk_frozen BK146.out 1; have hfz5_2 := blk_frozen BK146.out 2))
    go_ret
    exact ⟨by first | rfl | (simp [errW_none, errW_some] <;> rfl) | (simp only [← hji2]; first | rfl | (simp [errW_none, errW_some] <;> rfl)) | (simp [*, errW_none, errW_some] <;> rfl), by repeat (first | (with_reducible first | exact HB.out | apply below_alloc | apply pw_below_drewN | apply below_drew1 | refine below_set ?_ GE146.out) | exact HB.out)⟩
  · rw [if_neg c3] at H
    have c3b0 : decide ((ji2) < 1) = false := decide_eq_false c3
    clear c3
    obtain ⟨ji6, hji6⟩ : ∃ j_ : Int, (mx a0_0 a0_1) = j_ := ⟨_, rfl⟩
    replace H : (if (ji6) > 255 then (some 4) else (if (a0_2.size : Int) = (wrap64 (a0_0 * a0_1)) then (some 0) else (some 4))) = some r := by first | (rw [hji6] at H; exact H) | (simp only [hji6] at H ⊢; exact H)
    have hji6_ : (if a0_0 < a0_1 then a0_1 else a0_0) = ji6 := hji6
    by_cases c7 : (ji6) > 255
    · rw [if_pos c7] at H
      have c7b0 : decide (255 < (ji6)) = true := decide_eq_true c7
      clear c7
      obtain rfl := Option.some.inj H
      go_enter Try.func18, Try.ntmps18
      go_wp2_with (first | ((with_reducible refine gate_dst (N := 1) rfl ?_); (try (refine gate_guard (by rfl) ?_; dsimp only)); refine box_event ?hg (N := 1) ?hd (cs := #[.int .i64 a0_0, .int .i64 a0_1, .string a0_2]) (t := 24) ?hr ?_; (case hd => rfl); (case hg => rfl); (case hr => first | (go_simp; done) | (go_simp; rfl)); intro gb146 hg w8 hbox hb; have n0_ := Aside0.mk (below_step (by repeat (first | (with_reducible first | exact HB.out | apply below_alloc | apply pw_below_drewN | apply below_drew1) | exact HB.out)) hb); have n1_ := Aside0.mk (hbox); have n2_ := Aside0.mk ((by rw [hg]; exact (below_size (by repeat (first | (with_reducible first | exact HB.out | apply below_alloc | apply pw_below_drewN | apply below_drew1) | exact HB.out))) : w.heap.size ≤ gb146)); have n3_ := Aside0.mk ((by rw [hg]; exact (below_size (by repeat (first | (with_reducible first | exact HB.out | apply below_alloc | apply pw_below_drewN | apply below_drew1) | exact HB.out))) : w.heap.size ≤ gb146)); clear HB; have HB := n0_; have BK146 := n1_; have GW146 := n2_; have GE146 := n3_; clear n0_ n1_ n2_ n3_; clear hb hbox hg; have hcz9_0 : w8.cell? ⟨gb146, 0, none⟩ = some (.int .i64 a0_0) := (blk_cell BK146.out 0).trans rfl; have hcz9_1 : w8.cell? ⟨gb146, 1, none⟩ = some (.int .i64 a0_1) := (blk_cell BK146.out 1).trans rfl; have hcz9_2 : w8.cell? ⟨gb146, 2, none⟩ = some (.string a0_2) := (blk_cell BK146.out 2).trans rfl; have hfz9_0 := blk_frozen BK146.out 0; have hfz9_1 := blk_frozen BK146.out 1; have hfz9_2 := blk_frozen BK146.out 2))
      go_ret
      exact ⟨by first | rfl | (simp [errW_none, errW_some] <;> rfl) | (simp only [← hji2, ← hji6]; first | rfl | (simp [errW_none, errW_some] <;> rfl)) | (simp [*, errW_none, errW_some] <;> rfl), by repeat (first | (with_reducible first | exact HB.out | apply below_alloc | apply pw_below_drewN | apply below_drew1 | refine below_set ?_ GE146.out) | exact HB.out)⟩
    · rw [if_neg c7] at H
      have c7b0 : decide (255 < (ji6)) = false := decide_eq_false c7
      clear c7
      by_cases c10 : (a0_2.size : Int) = (wrap64 (a0_0 * a0_1))
      · rw [if_pos c10] at H
        have c10b0 : ((a0_2.size : Int) == (wrap64 (a0_0 * a0_1))) = true := beq_iff_eq.mpr c10
        have c10b1 : ((a0_2.size : Int) != (wrap64 (a0_0 * a0_1))) = false := bne_eq_false_iff_eq.mpr c10
        clear c10
        obtain rfl := Option.some.inj H
        go_enter Try.func18, Try.ntmps18
        go_wp2_with (first | ((with_reducible refine gate_dst (N := 1) rfl ?_); (try (refine gate_guard (by rfl) ?_; dsimp only)); refine box_event ?hg (N := 1) ?hd (cs := #[.int .i64 a0_0, .int .i64 a0_1, .string a0_2]) (t := 24) ?hr ?_; (case hd => rfl); (case hg => rfl); (case hr => first | (go_simp; done) | (go_simp; rfl)); intro gb146 hg w11 hbox hb; have n0_ := Aside0.mk (below_step (by repeat (first | (with_reducible first | exact HB.out | apply below_alloc | apply pw_below_drewN | apply below_drew1) | exact HB.out)) hb); have n1_ := Aside0.mk (hbox); have n2_ := Aside0.mk ((by rw [hg]; exact (below_size (by repeat (first | (with_reducible first | exact HB.out | apply below_alloc | apply pw_below_drewN | apply below_drew1) | exact HB.out))) : w.heap.size ≤ gb146)); have n3_ := Aside0.mk ((by rw [hg]; exact (below_size (by repeat (first | (with_reducible first | exact HB.out | apply below_alloc | apply pw_below_drewN | apply below_drew1) | exact HB.out))) : w.heap.size ≤ gb146)); clear HB; have HB := n0_; have BK146 := n1_; have GW146 := n2_; have GE146 := n3_; clear n0_ n1_ n2_ n3_; clear hb hbox hg; have hcz12_0 : w11.cell? ⟨gb146, 0, none⟩ = some (.int .i64 a0_0) := (blk_cell BK146.out 0).trans rfl; have hcz12_1 : w11.cell? ⟨gb146, 1, none⟩ = some (.int .i64 a0_1) := (blk_cell BK146.out 1).trans rfl; have hcz12_2 : w11.cell? ⟨gb146, 2, none⟩ = some (.string a0_2) := (blk_cell BK146.out 2).trans rfl; have hfz12_0 := blk_frozen BK146.out 0; have hfz12_1 := blk_frozen BK146.out 1; have hfz12_2 := blk_frozen BK146.out 2))
        go_ret
        exact ⟨by first | rfl | (simp [errW_none, errW_some] <;> rfl) | (simp only [← hji2, ← hji6]; first | rfl | (simp [errW_none, errW_some] <;> rfl)) | (simp [*, errW_none, errW_some] <;> rfl), by repeat (first | (with_reducible first | exact HB.out | apply below_alloc | apply pw_below_drewN | apply below_drew1 | refine below_set ?_ GE146.out) | exact HB.out)⟩
      · rw [if_neg c10] at H
        have c10b0 : ((a0_2.size : Int) == (wrap64 (a0_0 * a0_1))) = false := beq_eq_false_iff_ne.mpr c10
        have c10b1 : ((a0_2.size : Int) != (wrap64 (a0_0 * a0_1))) = true := bne_iff_ne.mpr c10
        obtain rfl := Option.some.inj H
        go_enter Try.func18, Try.ntmps18
        go_wp2_with (first | ((with_reducible refine gate_dst (N := 1) rfl ?_); (try (refine gate_guard (by rfl) ?_; dsimp only)); refine box_event ?hg (N := 1) ?hd (cs := #[.int .i64 a0_0, .int .i64 a0_1, .string a0_2]) (t := 24) ?hr ?_; (case hd => rfl); (case hg => rfl); (case hr => first | (go_simp; done) | (go_simp; rfl)); intro gb146 hg w13 hbox hb; have n0_ := Aside0.mk (below_step (by repeat (first | (with_reducible first | exact HB.out | apply below_alloc | apply pw_below_drewN | apply below_drew1) | exact HB.out)) hb); have n1_ := Aside0.mk (hbox); have n2_ := Aside0.mk ((by rw [hg]; exact (below_size (by repeat (first | (with_reducible first | exact HB.out | apply below_alloc | apply pw_below_drewN | apply below_drew1) | exact HB.out))) : w.heap.size ≤ gb146)); have n3_ := Aside0.mk ((by rw [hg]; exact (below_size (by repeat (first | (with_reducible first | exact HB.out | apply below_alloc | apply pw_below_drewN | apply below_drew1) | exact HB.out))) : w.heap.size ≤ gb146)); clear HB; have HB := n0_; have BK146 := n1_; have GW146 := n2_; have GE146 := n3_; clear n0_ n1_ n2_ n3_; clear hb hbox hg; have hcz14_0 : w13.cell? ⟨gb146, 0, none⟩ = some (.int .i64 a0_0) := (blk_cell BK146.out 0).trans rfl; have hcz14_1 : w13.cell? ⟨gb146, 1, none⟩ = some (.int .i64 a0_1) := (blk_cell BK146.out 1).trans rfl; have hcz14_2 : w13.cell? ⟨gb146, 2, none⟩ = some (.string a0_2) := (blk_cell BK146.out 2).trans rfl; have hfz14_0 := blk_frozen BK146.out 0; have hfz14_1 := blk_frozen BK146.out 1; have hfz14_2 := blk_frozen BK146.out 2))
        go_ret
        exact ⟨by first | rfl | (simp [errW_none, errW_some] <;> rfl) | (simp only [← hji2, ← hji6]; first | rfl | (simp [errW_none, errW_some] <;> rfl)) | (simp [*, errW_none, errW_some] <;> rfl), by repeat (first | (with_reducible first | exact HB.out | apply below_alloc | apply pw_below_drewN | apply below_drew1 | refine below_set ?_ GE146.out) | exact HB.out)⟩

-- NOT PRINTED: function 33 (matrix_of)

end Go.Proofs.Ytoghhpkmficnmaa.Al

/- matrix.Check and Pick by their contracts. -/
namespace Go.Proofs.Ytoghhpkmficnmaa.Al
open Go.RowKit Go.Proofs.Ytoghhpkmficnmaa.GfRef Go.Proofs.Ytoghhpkmficnmaa.Base Go.Proofs.Ytoghhpkmficnmaa.Bytes Go.Proofs.Ytoghhpkmficnmaa.Grid Go.Proofs.YtoghhpkmficnmaaW.PrintWords Go.Proofs.YtoghhpkmficnmaaW.PrintLast Go.Proofs.YtoghhpkmficnmaaW.PrintMore
set_option linter.unusedVariables false
set_option linter.unusedSimpArgs false
/-- May a matrix be? -/
def okM (r c : Int) (s : ByteArray) : Prop := 1 ≤ r ∧ r ≤ 255 ∧ 1 ≤ c ∧ c ≤ 255 ∧ (s.size : Int) = r * c
instance (r c : Int) (s : ByteArray) : Decidable (okM r c s) := by unfold okM; infer_instance
def chkE (r c : Int) (s : ByteArray) : Int := if okM r c s then 0 else 4
theorem wrap_small {a b : Int} (ha : 0 ≤ a) (ha1 : a ≤ 255) (hb : 0 ≤ b) (hb1 : b ≤ 255) : wrap64 (a * b) = a * b := by
  have h1 : 0 ≤ a * b := Int.mul_nonneg ha hb
  have h2 : a * b ≤ 255 * 255 := Int.mul_le_mul ha1 hb1 hb (by omega)
  exact wrap_id (by omega) (by omega)
theorem chk_f (r c : Int) (s : ByteArray) : matrix_Check.f r c s = some (chkE r c s) := by
  unfold matrix_Check.f chkE mn mx
  by_cases h : 1 ≤ r ∧ r ≤ 255 ∧ 1 ≤ c ∧ c ≤ 255
  · obtain ⟨h1, h2, h3, h4⟩ := h
    rw [wrap_small (by omega) h2 (by omega) h4]
    rw [if_neg (by split <;> omega), if_neg (by split <;> omega)]
    by_cases h5 : (s.size : Int) = r * c
    · rw [if_pos h5, if_pos (show okM r c s from ⟨h1, h2, h3, h4, h5⟩)]
    · rw [if_neg h5, if_neg (show ¬ okM r c s from fun hc => h5 hc.2.2.2.2)]
  · rw [if_neg (show ¬ okM r c s from fun hc => h ⟨hc.1, hc.2.1, hc.2.2.1, hc.2.2.2.1⟩)]
    by_cases h1 : r < 1 ∨ c < 1
    · rw [if_pos (by split <;> omega)]
    · rw [if_neg (by split <;> omega), if_pos (by split <;> omega)]
theorem check_calls (r c : Int) (s : ByteArray) (w : World) : Calls Try.prog 18 #[.agg #[.int .i64 r, .int .i64 c, .string s]] w fun e w' => e = .returned (.int .i64 (chkE r c s)) ∧ Below w.heap.size w w' := matrix_Check.calls r c s _ w (chk_f r c s)
abbrev MR := Int × Int × ByteArray × Int
def errM (e : Int) : MR := (0, 0, ⟨#[]⟩, e)
def mrV (x : MR) : Value := .tuple #[.agg #[.int .i64 x.1, .int .i64 x.2.1, .string x.2.2.1], .int .i64 x.2.2.2]
def pickF (c : Nat) (s : ByteArray) (l : List Int) (i j : Nat) : Int := bt s (((l.getD i 0).toNat * c + j : Nat) : Int)
def pickV (r c : Int) (s : ByteArray) (l : List Int) : MR :=
  if okM r c s then
    if ∃ x ∈ l, x < 0 ∨ r ≤ x then errM 1
    else if 255 < l.length then errM 2
    else if l = [] then errM 1
    else (l.length, c, cellsOf l.length c.toNat (pickF c.toNat s l), 0)
  else errM 4
/-- The end of a walk that hands back a matrix and an error: three stores into the result's block. -/
theorem mr_end {fn : Func} {p u : Tmp} {a : Act} {W : World} {gq : Nat} {post : Ending → World → Prop} (r c : Int) (s : ByteArray) (e : Int) (hres : fn.results = #[.cell p 24, .tmp u]) (hd : a.defers = []) (hp : a.tmps.getD p undef = .pointer (some ⟨gq, 0, none⟩)) {cs : Array Value} (hq : W.heap[gq]? = some (.cells cs 24 (0, 0)))
    (hcs : cs.size = 3) (h : post (.returned (.tuple #[.agg #[.int .i64 r, .int .i64 c, .string s], a.tmps.getD u undef])) (((W.setCell ⟨gq, 0, none⟩ (.int .i64 r)).setCell ⟨gq, 1, none⟩ (.int .i64 c)).setCell ⟨gq, 2, none⟩ (.string s))) :
    bodyPost Try.prog fn post .ret a (((W.setCell ⟨gq, 0, none⟩ (.int .i64 r)).setCell ⟨gq, 1, none⟩ (.int .i64 c)).setCell ⟨gq, 2, none⟩ (.string s)) := by
  have hb1 := blk_set (blk_set (blk_set hq 0 (.int .i64 r)) 1 (.int .i64 c)) 2 (.string s)
  have hcc : ((cs.setIfInBounds 0 (.int .i64 r)).setIfInBounds 1 (.int .i64 c)).setIfInBounds 2 (.string s) = #[.int .i64 r, .int .i64 c, .string s] := by
    obtain ⟨l⟩ := cs
    match l, hcs with
    | [x, y, z], _ => rfl
  rw [hcc] at hb1
  exact bodyPost_ret (results_ct hres _ _ gq 24 #[.int .i64 r, .int .i64 c, .string s] (0, 0) _ hp hb1 Try.underlying24 rfl (by kernel_rfl)) hd h
theorem pick_bad (r c : Int) (s : ByteArray) (A : Option Addr) (ca : Nat) (l : List Int) (w : World) (h : ¬ okM r c s) :
    Calls Try.prog 14 #[.agg #[.int .i64 r, .int .i64 c, .string s], .slice A l.length ca] w fun e w' => e = .returned (mrV (errM 4)) ∧ Below w.heap.size w w' := by
  have h4 : chkE r c s = 4 := if_neg h
  have H4 := Aside0.mk h4
  clear h h4
  go_enter Try.func14, Try.ntmps14
  go_wp2_with (first | ((with_reducible refine gate_dst (N := 2) rfl ?_); refine box_event ?hg (N := 2) ?hd (cs := #[.int .i64 r, .int .i64 c, .string s]) (t := 24) ?hr ?_; (case hd => rfl); (case hg => rfl); (case hr => first | (go_simp; done) | (go_simp; rfl)); intro gb hg w1 hbox hb; have f0 : w1.cell? ⟨gb, 0, none⟩ = some (.int .i64 r) := (blk_cell hbox 0).trans rfl; have f1 : w1.cell? ⟨gb, 1, none⟩ = some (.int .i64 c) := (blk_cell hbox 1).trans rfl; have f2 : w1.cell? ⟨gb, 2, none⟩ = some (.string s) := (blk_cell hbox 2).trans rfl; have HBX := Aside0.mk hbox; have HB1 := Aside0.mk hb; clear hg hbox hb) | ((with_reducible refine gate_dst (N := 4) rfl ?_); refine box_event ?hg (N := 4) ?hd (cs := #[.int .i64 0, .int .i64 0, .string ⟨#[]⟩]) (t := 24) ?hr ?_; (case hd => rfl); (case hg => rfl); (case hr => first | (go_simp; done) | (go_simp; rfl)); intro gq hg w2 hbox hb; have HQ := Aside0.mk (show w.heap.size ≤ gq from by have := HB1.out.size; omega); have HQX := Aside0.mk hbox; have HB2 := Aside0.mk (below_step HB1.out hb); have hbx := blk_below HBX.out hb; have f0 : w2.cell? ⟨gb, 0, none⟩ = some (.int .i64 r) := (blk_cell hbx 0).trans rfl; have f1 : w2.cell? ⟨gb, 1, none⟩ = some (.int .i64 c) := (blk_cell hbx 1).trans rfl; have f2 : w2.cell? ⟨gb, 2, none⟩ = some (.string s) := (blk_cell hbx 2).trans rfl; clear hg hbox hb hbx) | (go_at_call 18; refine (check_calls r c s _).mono ?_; rintro e w3 ⟨rfl, hb⟩; rw [H4.out]; have hq := blk_below HQX.out hb; have q0 : w3.cell? ⟨gq, 0, none⟩ = some (.int .i64 0) := (blk_cell hq 0).trans rfl; have q1 : w3.cell? ⟨gq, 1, none⟩ = some (.int .i64 0) := (blk_cell hq 1).trans rfl; have q2 : w3.cell? ⟨gq, 2, none⟩ = some (.string ⟨#[]⟩) := (blk_cell hq 2).trans rfl; have z0 := blk_frozen hq 0; have z1 := blk_frozen hq 1; have z2 := blk_frozen hq 2; have HQ3 := Aside0.mk hq; have HB3 := Aside0.mk (below_step HB2.out hb); clear hq hb))
  exact mr_end 0 0 ⟨#[]⟩ 4 rfl rfl rfl HQ3.out (by kernel_rfl) ⟨rfl, below_set (below_set (below_set HB3.out HQ.out) HQ.out) HQ.out⟩
theorem byte_bt (s : ByteArray) (i : Int) : Byte (bt s i) := by
  have := bt_range s i
  unfold Byte
  omega
theorem pickV_range {r c : Int} {s : ByteArray} {l : List Int} (h : okM r c s) {k : Nat} (hk : k < l.length) (hb : rd l k < 0 ∨ r ≤ rd l k) : pickV r c s l = errM 1 := by
  unfold pickV
  rw [if_pos h, if_pos]
  refine ⟨rd l k, ?_, hb⟩
  unfold rd
  rw [Int.toNat_natCast, List.getD_eq_getElem?_getD, List.getElem?_eq_getElem hk]
  exact List.getElem_mem hk
theorem pickV_all {r c : Int} {s : ByteArray} {l : List Int} (h : okM r c s) (ha : ∀ k : Nat, k < l.length → 0 ≤ rd l k ∧ rd l k < r) : pickV r c s l = if 255 < l.length then errM 2 else if l = [] then errM 1 else (l.length, c, cellsOf l.length c.toNat (pickF c.toNat s l), 0) := by
  unfold pickV
  rw [if_pos h, if_neg]
  rintro ⟨x, hx, hb⟩
  obtain ⟨k, hk, rfl⟩ := List.mem_iff_getElem.1 hx
  have := ha k hk
  unfold rd at this
  rw [Int.toNat_natCast, List.getD_eq_getElem?_getD, List.getElem?_eq_getElem hk] at this
  simp only [Option.getD_some] at this
  omega
theorem rows_cell {W : World} {B g0 cap n m : Nat} {os : List (Option (Nat × Nat))} {rs : List (Nat × Nat)} {f : Nat → Nat → Int} (h : Grid B W (.slice (some ⟨g0, 0, none⟩) n cap) m os rs f) (hos : os = rs.map some) {i : Nat} (hi : i < rs.length) (hn : rs.length = n) : W.cell? ⟨g0, i, none⟩ = some (.slice (some ⟨(rs.getD i (0, 0)).1, 0, none⟩) m (rs.getD i (0, 0)).2) ∧ Br W (rs.getD i (0, 0)).1 m (f i) := by
  subst hos
  have h2 : rs[i]? = some (rs[i]'hi) := List.getElem?_eq_getElem hi
  have h3 : rs.getD i (0, 0) = rs[i] := by rw [List.getD_eq_getElem?_getD, h2]; rfl
  rw [h3]
  refine ⟨?_, (h.row i _ h2).1⟩
  rw [(h.outer (by omega)).1]
  simp [rowV, List.getD_eq_getElem?_getD, h2]
/-- The rows that are picked so far. -/
def picked (rs : List (Nat × Nat)) (l : List Int) (k : Nat) : List (Option (Nat × Nat)) := (l.take k).map fun x => some (rs.getD x.toNat (0, 0))
theorem picked_len (rs : List (Nat × Nat)) (l : List Int) {k : Nat} (h : k ≤ l.length) : (picked rs l k).length = k := by simp [picked]; omega
theorem picked_next (rs : List (Nat × Nat)) (l : List Int) {k : Nat} (h : k < l.length) : picked rs l (k + 1) = picked rs l k ++ [some (rs.getD (rd l k).toNat (0, 0))] := by
  unfold picked
  rw [List.take_succ_eq_append_getElem h, List.map_append]
  simp [rd, List.getD_eq_getElem?_getD, h]
set_option maxHeartbeats 8000000 in
set_option maxRecDepth 100000 in
theorem pick_good (r c : Nat) (s : ByteArray) (A : Option Addr) (ca : Nat) (l : List Int) (w : World) (h : okM r c s) (hl : (Kd.int .i64).C w A l.length l) (R : MR) (hR : pickV r c s l = R) :
    Calls Try.prog 14 #[.agg #[.int .i64 r, .int .i64 c, .string s], .slice A l.length ca] w fun e w' => e = .returned (mrV R) ∧ Below w.heap.size w w' := by
  have h4 : chkE r c s = 0 := if_pos h
  have H4 := Aside0.mk h4
  have HM := Aside0.mk h
  have HR := Aside0.mk hR
  have HLL := Aside0.mk hl
  have hmax : l.length ≤ 9223372036854775807 := hl.2.1
  clear h h4 hR hl
  go_enter Try.func14, Try.ntmps14
  go_wp2_with (first | ((with_reducible refine gate_dst (N := 2) rfl ?_); refine box_event ?hg (N := 2) ?hd (cs := #[.int .i64 r, .int .i64 c, .string s]) (t := 24) ?hr ?_; (case hd => rfl); (case hg => rfl); (case hr => first | (go_simp; done) | (go_simp; rfl)); intro gb hg w1 hbox hb; have f0 : w1.cell? ⟨gb, 0, none⟩ = some (.int .i64 r) := (blk_cell hbox 0).trans rfl; have f1 : w1.cell? ⟨gb, 1, none⟩ = some (.int .i64 c) := (blk_cell hbox 1).trans rfl; have f2 : w1.cell? ⟨gb, 2, none⟩ = some (.string s) := (blk_cell hbox 2).trans rfl; have HBX := Aside0.mk hbox; have HB1 := Aside0.mk hb; clear hg hbox hb) | ((with_reducible refine gate_dst (N := 4) rfl ?_); refine box_event ?hg (N := 4) ?hd (cs := #[.int .i64 0, .int .i64 0, .string ⟨#[]⟩]) (t := 24) ?hr ?_; (case hd => rfl); (case hg => rfl); (case hr => first | (go_simp; done) | (go_simp; rfl)); intro gq hg w2 hbox hb; have HQ := Aside0.mk (show w.heap.size ≤ gq from by have := HB1.out.size; omega); have HQX := Aside0.mk hbox; have HB2 := Aside0.mk (below_step HB1.out hb); have hbx := blk_below HBX.out hb; have f0 : w2.cell? ⟨gb, 0, none⟩ = some (.int .i64 r) := (blk_cell hbx 0).trans rfl; have f1 : w2.cell? ⟨gb, 1, none⟩ = some (.int .i64 c) := (blk_cell hbx 1).trans rfl; have f2 : w2.cell? ⟨gb, 2, none⟩ = some (.string s) := (blk_cell hbx 2).trans rfl; have HBX2 := Aside0.mk hbx; clear hg hbox hb hbx) | (go_at_call 18; refine (check_calls r c s _).mono ?_; rintro e w3 ⟨rfl, hb⟩; rw [H4.out]; have HQ3 := Aside0.mk (blk_below HQX.out hb); have HBX3 := Aside0.mk (blk_below HBX2.out hb); have HB3 := Aside0.mk (below_step HB2.out hb); clear hb))
  go_loop [7, 18] (fun v7 v18 => ∃ k : Nat, v18 = .int .i64 k ∧ k ≤ l.length ∧ Aside0 (∀ j : Nat, j < k → 0 ≤ rd l j ∧ rd l j < r)) (fun _ v18 => l.length - (intOf v18).toNat)
  case atStart => exact ⟨0, rfl, Nat.zero_le _, ⟨fun j hj => absurd hj (by omega)⟩⟩
  case round =>
    obtain ⟨k, rfl, hk, HA⟩ := hrel
    by_cases hlt : k < l.length
    · obtain ⟨ad, eA, hx⟩ := Kd.at_int HLL.out (k : Int) (by omega) (by omega)
      subst eA
      rw [Int.toNat_natCast] at hx
      replace hx := (HB3.out.cell (World.block_lt_of_cell? w _ hx)).trans hx
      have g0 : w3.cell? ⟨gb, 0, none⟩ = some (.int .i64 r) := (blk_cell HBX3.out 0).trans rfl
      have q0 : w3.cell? ⟨gq, 0, none⟩ = some (.int .i64 0) := (blk_cell HQ3.out 0).trans rfl
      have q1 : w3.cell? ⟨gq, 1, none⟩ = some (.int .i64 0) := (blk_cell HQ3.out 1).trans rfl
      have q2 : w3.cell? ⟨gq, 2, none⟩ = some (.string ⟨#[]⟩) := (blk_cell HQ3.out 2).trans rfl
      have z0 := blk_frozen HQ3.out 0
      have z1 := blk_frozen HQ3.out 1
      have z2 := blk_frozen HQ3.out 2
      by_cases n1 : rd l k < 0
      · have n1b : decide (rd l k < 0) = true := decide_eq_true n1
        have HE := Aside0.mk ((pickV_range HM.out hlt (.inl n1)).symm.trans HR.out)
        clear n1
        go_wp2
        exact mr_end 0 0 ⟨#[]⟩ 1 rfl rfl rfl HQ3.out (by kernel_rfl) ⟨by rw [← HE.out]; rfl, below_set (below_set (below_set HB3.out HQ.out) HQ.out) HQ.out⟩
      · have n1b : decide (rd l k < 0) = false := decide_eq_false n1
        by_cases n2 : (r : Int) ≤ rd l k
        · have n2b : decide ((r : Int) ≤ rd l k) = true := decide_eq_true n2
          have HE := Aside0.mk ((pickV_range HM.out hlt (.inr n2)).symm.trans HR.out)
          clear n1 n2
          go_wp2
          exact mr_end 0 0 ⟨#[]⟩ 1 rfl rfl rfl HQ3.out (by kernel_rfl) ⟨by rw [← HE.out]; rfl, below_set (below_set (below_set HB3.out HQ.out) HQ.out) HQ.out⟩
        · have n2b : decide ((r : Int) ≤ rd l k) = false := decide_eq_false n2
          have HA' : Aside0 (∀ j : Nat, j < k + 1 → 0 ≤ rd l j ∧ rd l j < r) := ⟨fun j hj => by
            by_cases e : j = k
            · subst e; omega
            · exact HA.out j (by omega)⟩
          clear n1 n2
          go_wp2
          go_round
          case rel => exact ⟨k + 1, by go_num, hlt, HA'⟩
          case measure => simp [intOf]; omega
    · obtain rfl : k = l.length := by omega
      have HRV := Aside0.mk ((pickV_all HM.out HA.out).symm.trans HR.out)
      have q0 : w3.cell? ⟨gq, 0, none⟩ = some (.int .i64 0) := (blk_cell HQ3.out 0).trans rfl
      have q1 : w3.cell? ⟨gq, 1, none⟩ = some (.int .i64 0) := (blk_cell HQ3.out 1).trans rfl
      have q2 : w3.cell? ⟨gq, 2, none⟩ = some (.string ⟨#[]⟩) := (blk_cell HQ3.out 2).trans rfl
      have z0 := blk_frozen HQ3.out 0
      have z1 := blk_frozen HQ3.out 1
      have z2 := blk_frozen HQ3.out 2
      by_cases n1 : 255 < l.length
      · have n1b : decide (255 < l.length) = true := decide_eq_true n1
        have n1c : decide ((255 : Int) < (l.length : Int)) = true := decide_eq_true (by omega)
        have HE : Aside0 (errM 2 = R) := ⟨by have := HRV.out; rwa [if_pos n1] at this⟩
        go_wp2
        exact mr_end 0 0 ⟨#[]⟩ 2 rfl rfl rfl HQ3.out (by kernel_rfl) ⟨by rw [← HE.out]; rfl, below_set (below_set (below_set HB3.out HQ.out) HQ.out) HQ.out⟩
      · have n1b : decide (255 < l.length) = false := decide_eq_false n1
        have n1c : decide ((255 : Int) < (l.length : Int)) = false := decide_eq_false (by omega)
        by_cases n2 : l = []
        · subst n2
          have HE : Aside0 (errM 1 = R) := ⟨by have := HRV.out; rwa [if_neg n1, if_pos rfl] at this⟩
          go_wp2
          exact mr_end 0 0 ⟨#[]⟩ 1 rfl rfl rfl HQ3.out (by kernel_rfl) ⟨by rw [← HE.out]; rfl, below_set (below_set (below_set HB3.out HQ.out) HQ.out) HQ.out⟩
        · have hl1 : 1 ≤ l.length := by cases l with | nil => exact absurd rfl n2 | cons x r => simp
          have HL1 := Aside0.mk hl1
          have HL2 := Aside0.mk (show l.length ≤ 255 by omega)
          have HE : Aside0 (((l.length : Int), (c : Int), cellsOf l.length c (pickF c s l), (0 : Int)) = R) := ⟨by have := HRV.out; rw [if_neg n1, if_neg n2, Int.toNat_natCast] at this; exact this⟩
          have n2b : ((l.length : Int) == 0) = false := beq_eq_false_iff_ne.2 (by omega)
          have n2c : l.isEmpty = false := by cases l with | nil => exact absurd rfl n2 | cons x r => rfl
          have n2d : (l == []) = false := by cases l with | nil => exact absurd rfl n2 | cons x r => rfl
          have n2e : decide (l = []) = false := decide_eq_false n2
          clear n1 n2 hl1
          have p0 : w3.cell? ⟨gb, 0, none⟩ = some (.int .i64 r) := (blk_cell HBX3.out 0).trans rfl
          have p1 : w3.cell? ⟨gb, 1, none⟩ = some (.int .i64 c) := (blk_cell HBX3.out 1).trans rfl
          have p2 : w3.cell? ⟨gb, 2, none⟩ = some (.string s) := (blk_cell HBX3.out 2).trans rfl
          go_wp2_with (first | (go_at_call 33; refine (of_calls r c s _ (by have := HM.out.1; omega) (by have := HM.out.2.1; omega) (by have := HM.out.2.2.1; omega) (by have := HM.out.2.2.2.1; omega) (by have := HM.out.2.2.2.2; rw [← Int.natCast_mul] at this; omega)).mono ?_; rintro e w5 ⟨vo, rs, rfl, hrl, hG, hb⟩; obtain ⟨go, co, ego, _, _, _, _⟩ := hG.form (by simp only [List.length_map]; have := HM.out.1; omega); rw [List.length_map, hrl] at ego; subst ego; have HRS := Aside0.mk hrl; have HG5 := Aside0.mk hG; have HB5 := Aside0.mk (below_step HB3.out hb); have HQ5 := Aside0.mk (blk_below HQ3.out hb); clear hrl hG hb) | ((with_reducible refine gate_dst (N := 44) rfl ?_); refine Kd.R_lit (kG c) (w0 := w5) w5.heap.size 54 ?hg (N := 44) ?hd (xs := []) (inner := []) (ok := fun _ => True) (okp := fun _ => True) ?hr ?hp (fun _ hk => hk) trivial (Below.refl _ _) (Nat.le_refl _) (by simp) ?_; (case hd => rfl); (case hg => rfl); (case hr => first | (go_simp; done) | (go_simp; rfl)); (case hp => exact Reps.none _ _); intro v9 w6 ho hb hgr hnew; have HO6 := Aside0.mk ho; have HB6 := Aside0.mk hb; clear ho hb hgr hnew))
          have HAA := Aside0.mk HA.out
          go_loopw [9, 11, 47] (fun v9 v11 v47 wr => ∃ k : Nat, v47 = .int .i64 k ∧ k ≤ l.length ∧ Aside0 ((kG c).R 54 wr w5.heap.size (fun _ => True) v9 (picked rs l k)) ∧ Aside0 (Below w5.heap.size w5 wr)) (fun _ _ v47 _ => l.length - (intOf v47).toNat)
          case atStart => exact ⟨0, rfl, Nat.zero_le _, HO6, HB6⟩
          case round =>
            obtain ⟨k, rfl, hk, HO, HB⟩ := hrel
            by_cases hlt : k < l.length
            · obtain ⟨ad, eA, hx⟩ := Kd.at_int HLL.out (k : Int) (by omega) (by omega)
              subst eA
              rw [Int.toNat_natCast] at hx
              replace hx := ((below_step HB5.out HB.out).cell (World.block_lt_of_cell? w _ hx)).trans hx
              obtain ⟨a1, a2⟩ := HAA.out k hlt
              have hrs := HRS.out
              obtain ⟨hoc, hbr⟩ := rows_cell HG5.out rfl (i := (rd l k).toNat) (by omega) hrs
              have hpn := picked_next rs l hlt
              obtain ⟨⟨rb, cb⟩, hp⟩ : ∃ p, rs.getD (rd l k).toNat (0, 0) = p := ⟨_, rfl⟩
              rw [hp] at hoc hbr hpn
              simp only at hoc hbr
              replace hoc := (HB.out.cell (World.block_lt_of_cell? w5 _ hoc)).trans hoc
              have a3 : decide (0 ≤ rd l k) = true := decide_eq_true a1
              have a4 : decide (rd l k < (r : Int)) = true := decide_eq_true a2
              have a1' := eq_true a1
              have a2' := eq_true a2
              have HPN := Aside0.mk hpn
              clear hbr hp hpn hrs a1 a2
              go_wp2_with ((with_reducible refine gate_builtin (b := .append) (xs := #[.tmp 51, .tmp 56]) rfl ?_); at_builtin; refine Kd.R_append (kG c) (w0 := w5) w5.heap.size rfl (.tmp 51) (.tmp 56) 52 54 (.slice none 0 0) 24 rfl Try.underlying52 info54 rfl Nat.one_pos (by omega) _ (picked rs l k) (some (rb, cb)) [.slice (some ⟨rb, 0, none⟩) c cb] (fun _ => True) (fun _ => False) rfl rfl ?aP (fun _ hk => hk.elim) (fun _ _ => trivial) HO.out HB.out HB.out.size ?aL ?_; (case aP => exact rfl); (case aL => rw [picked_len rs l hk]; have := HL2.out; omega); intro v1 w1 ho hb hg hat; rw [← HPN.out] at ho; have HO1 := Aside0.mk ho; have HB1' := Aside0.mk hb; clear ho hb hg hat)
              go_roundw
              case rel => exact ⟨k + 1, by go_num, hlt, HO1, HB1'⟩
              case measure => simp [intOf]; omega
            · obtain rfl : k = l.length := by omega
              obtain ⟨g1, cap1, e1, _, _, _⟩ := Kd.R_form HO.out (by rw [picked_len rs l (Nat.le_refl _)]; have := HL1.out; omega)
              rw [picked_len rs l (Nat.le_refl _)] at e1
              subst e1
              have HRW : Aside0 (RowsC wr g1 l.length c (pickF c s l)) := ⟨fun i hi => by
                obtain ⟨a1, a2⟩ := HAA.out i hi
                have hrs := HRS.out
                obtain ⟨_, hbr⟩ := rows_cell HG5.out rfl (i := (rd l i).toNat) (by omega) hrs
                refine ⟨(rs.getD (rd l i).toNat (0, 0)).1, (rs.getD (rd l i).toNat (0, 0)).2, ?_, (hbr.below HB.out).congr fun j _ => ?_⟩
                · have := (Kd.R_celln none HO.out (i : Int) (by omega) (by omega)).1
                  rw [Int.toNat_natCast] at this
                  refine this.trans ?_
                  simp [rdOf, picked, List.getD_eq_getElem?_getD, hi, rowV, rd]
                · unfold pickF rd
                  rw [Int.toNat_natCast]⟩
              have HCP := Aside0.mk (Kd.R_reads' HO.out).2.1
              have HQ9 := Aside0.mk (blk_below HQ5.out HB.out)
              have HB9 := Aside0.mk (below_step HB5.out HB.out)
              go_wp2_with (go_at_call 31; refine (matrix_calls g1 l.length c cap1 (pickF c s l) _ HL1.out HL2.out (by have := HM.out.2.2.1; omega) (by have := HM.out.2.2.2.1; omega) HRW.out HCP.out (fun i j _ _ => by unfold pickF; exact byte_bt s _)).mono ?_; rintro e w9 ⟨rfl, hb⟩; have hq := blk_below HQ9.out hb; have q0 : w9.cell? ⟨gq, 0, none⟩ = some (.int .i64 0) := (blk_cell hq 0).trans rfl; have q1 : w9.cell? ⟨gq, 1, none⟩ = some (.int .i64 0) := (blk_cell hq 1).trans rfl; have q2 : w9.cell? ⟨gq, 2, none⟩ = some (.string ⟨#[]⟩) := (blk_cell hq 2).trans rfl; have z0 := blk_frozen hq 0; have z1 := blk_frozen hq 1; have z2 := blk_frozen hq 2; have HQf := Aside0.mk hq; have HBf := Aside0.mk (below_step HB9.out hb); clear hq hb)
              exact mr_end l.length c (cellsOf l.length c (pickF c s l)) 0 rfl rfl rfl HQf.out (by kernel_rfl) ⟨by rw [← HE.out]; rfl, below_set (below_set (below_set HBf.out HQ.out) HQ.out) HQ.out⟩
end Go.Proofs.Ytoghhpkmficnmaa.Al

/- matrix.Generator in the printer's form. -/
namespace Go.Proofs.Ytoghhpkmficnmaa.Al
open Go.RowKit Go.Proofs.Ytoghhpkmficnmaa.GfRef Go.Proofs.Ytoghhpkmficnmaa.Base Go.Proofs.Ytoghhpkmficnmaa.Grid Go.Proofs.YtoghhpkmficnmaaW.PrintWords
set_option linter.unusedVariables false
def genV (k m : Int) : MR := if 1 ≤ k ∧ k ≤ 255 ∧ 0 ≤ m ∧ m ≤ 255 - k then (k + m, k, cellsOf (k + m).toNat k.toNat (genI k.toNat), 0) else errM 1
def matrix_Generator.f (a0 a1 : Int) : Option (Int × Int × ByteArray × Int) := some (genV a0 a1)
theorem matrix_Generator.calls (a0 a1 : Int) (r1 r2 : Int) (r3 : ByteArray) (r4 : Int) (w : World) (h : matrix_Generator.f a0 a1 = some (r1, r2, r3, r4)) :
    Calls Try.prog 12 #[.int .i64 a0, .int .i64 a1] w fun e w' => e = .returned (.tuple #[.agg #[.int .i64 r1, .int .i64 r2, .string r3], .int .i64 r4]) ∧ Below w.heap.size w w' := by
  have h' := Option.some.inj h
  clear h
  unfold genV at h'
  by_cases hc : 1 ≤ a0 ∧ a0 ≤ 255 ∧ 0 ≤ a1 ∧ a1 ≤ 255 - a0
  · rw [if_pos hc] at h'
    obtain ⟨h1, h2, h3, h4⟩ := hc
    obtain ⟨k, rfl⟩ := Int.eq_ofNat_of_zero_le (show 0 ≤ a0 by omega)
    obtain ⟨m, rfl⟩ := Int.eq_ofNat_of_zero_le h3
    injection h' with e1 h'
    injection h' with e2 h'
    injection h' with e3 e4
    subst e1 e2 e3 e4
    rw [← Int.natCast_add, Int.toNat_natCast, Int.toNat_natCast]
    exact gen_good k m w (by omega) (by omega)
  · rw [if_neg hc] at h'
    injection h' with e1 h'
    injection h' with e2 h'
    injection h' with e3 e4
    subst e1 e2 e3 e4
    exact gen_bad a0 a1 w (by omega)
end Go.Proofs.Ytoghhpkmficnmaa.Al

/- One function of the program comes to what its plain twin says. This text began as the kit's own print (print.py, made by cprint.sh) and was turned by split.py: it is no printed file. -/
namespace Go.Proofs.Ytoghhpkmficnmaa.Al
open Go.RowKit Go.Proofs.YtoghhpkmficnmaaW.PrintWords Go.Proofs.YtoghhpkmficnmaaW.PrintLast Go.Proofs.YtoghhpkmficnmaaW.PrintMore
attribute [local go_sem] max2_int min2_int max_two min_two max_three min_three max_four min_four   -- for this text's walks alone
set_option linter.unusedVariables false
set_option linter.unusedSimpArgs false

attribute [local go_sem high] eqA24
/-! ### corncriblaw02_works: function 11 -/
def corncriblaw02_works.f  : Option (Bool) := (matrix_Generator.f 2 1).bind fun bt119 => (if bt119.2.2.2 = 0 then (some (bt119.1 == 3 && (bt119.2.1 == 2 && (bt119.2.2.1.toList == ([1, 0, 0, 1, 142, 244] : List UInt8))))) else (some false))
set_option maxHeartbeats 8000000 in
set_option maxRecDepth 100000 in
theorem corncriblaw02_works.calls  (r : Bool) (w : World) (h : corncriblaw02_works.f  = some r) :
    Calls Try.prog 11 #[] w fun e w' => e = .returned (.bool r) ∧ Below w.heap.size w w' := by
  have hu24 := Try.underlying24
  have HB := Aside0.mk (Below.refl w.heap.size w)
  have H : ((matrix_Generator.f 2 1).bind fun bt119 => (if bt119.2.2.2 = 0 then (some (bt119.1 == 3 && (bt119.2.1 == 2 && (bt119.2.2.1.toList == ([1, 0, 0, 1, 142, 244] : List UInt8))))) else (some false))) = some r := h
  clear h
  replace H := Option.bind_eq_some_iff.mp H
  obtain ⟨⟨t119, t120, t121, t122⟩, A10, H⟩ := H
  replace H : (if t122 = 0 then (some (t119 == 3 && (t120 == 2 && (t121.toList == ([1, 0, 0, 1, 142, 244] : List UInt8))))) else (some false)) = some r := H
  have A1 := Aside0.mk A10
  clear A10
  by_cases c2 : t122 = 0
  · rw [if_pos c2] at H
    have c2b0 : (t122 == 0) = true := beq_iff_eq.mpr c2
    have c2b1 : (t122 != 0) = false := bne_eq_false_iff_eq.mpr c2
    clear c2
    obtain rfl := Option.some.inj H
    go_enter Try.func11, Try.ntmps11
    go_wp2_with (first | ((with_reducible refine gate_callee (f := 12) rfl ?_); refine goesL_ (some 4) rfl rfl Try.func12 (by kernel_rfl) rfl #[.int .i64 2, .int .i64 1] rfl (by (try simp only [List.map_toArray, List.map_cons, List.map_nil]); first | done | rfl | (simp only [List.length_drop, List.length_take]; rfl)) ?_; (with_reducible refine (matrix_Generator.calls 2 1 t119 t120 t121 t122 _ A1.out).mono ?_); rintro e w3 ⟨rfl, hb⟩; refine ⟨_, rfl, ?_⟩; have n0_ := Aside0.mk (below_step (by repeat (first | (with_reducible first | exact HB.out | apply below_alloc | apply pw_below_drewN | apply below_drew1) | exact HB.out)) hb); clear HB; have HB := n0_; clear n0_; (try clear hb); (try clear hb2); (try clear hk); (try clear hi)) | ((with_reducible refine gate_dst (N := 1) rfl ?_); refine box_event ?hg (N := 1) ?hd (cs := #[.int .i64 0, .int .i64 0, .string (⟨#[]⟩ : ByteArray)]) (t := 24) ?hr ?_; (case hd => rfl); (case hg => rfl); (case hr => first | (go_simp; done) | (go_simp; rfl)); intro gb123 hg w4 hbox hb; have n0_ := Aside0.mk (below_step (by repeat (first | (with_reducible first | exact HB.out | apply below_alloc | apply pw_below_drewN | apply below_drew1) | exact HB.out)) hb); have n1_ := Aside0.mk (hbox); have n2_ := Aside0.mk ((by rw [hg]; exact (below_size (by repeat (first | (with_reducible first | exact HB.out | apply below_alloc | apply pw_below_drewN | apply below_drew1) | exact HB.out))) : w.heap.size ≤ gb123)); have n3_ := Aside0.mk ((by rw [hg]; exact (below_size (by repeat (first | (with_reducible first | exact HB.out | apply below_alloc | apply pw_below_drewN | apply below_drew1) | exact HB.out))) : w.heap.size ≤ gb123)); clear HB; have HB := n0_; have BK123 := n1_; have GW123 := n2_; have GE123 := n3_; clear n0_ n1_ n2_ n3_; clear hb hbox hg; have hcz5_0 : w4.cell? ⟨gb123, 0, none⟩ = some (.int .i64 0) := (blk_cell BK123.out 0).trans rfl; have hcz5_1 : w4.cell? ⟨gb123, 1, none⟩ = some (.int .i64 0) := (blk_cell BK123.out 1).trans rfl; have hcz5_2 : w4.cell? ⟨gb123, 2, none⟩ = some (.string (⟨#[]⟩ : ByteArray)) := (blk_cell BK123.out 2).trans rfl; have hfz5_0 := blk_frozen BK123.out 0; have hfz5_1 := blk_frozen BK123.out 1; have hfz5_2 := blk_frozen BK123.out 2))
    go_ret
    exact ⟨by first | rfl | (simp [errW_none, errW_some] <;> rfl) | (simp [*, errW_none, errW_some] <;> rfl), by repeat (first | (with_reducible first | exact HB.out | apply below_alloc | apply pw_below_drewN | apply below_drew1 | refine below_set ?_ GE123.out) | exact HB.out)⟩
  · rw [if_neg c2] at H
    have c2b0 : (t122 == 0) = false := beq_eq_false_iff_ne.mpr c2
    have c2b1 : (t122 != 0) = true := bne_iff_ne.mpr c2
    obtain rfl := Option.some.inj H
    go_enter Try.func11, Try.ntmps11
    go_wp2_with (first | ((with_reducible refine gate_callee (f := 12) rfl ?_); refine goesL_ (some 4) rfl rfl Try.func12 (by kernel_rfl) rfl #[.int .i64 2, .int .i64 1] rfl (by (try simp only [List.map_toArray, List.map_cons, List.map_nil]); first | done | rfl | (simp only [List.length_drop, List.length_take]; rfl)) ?_; (with_reducible refine (matrix_Generator.calls 2 1 t119 t120 t121 t122 _ A1.out).mono ?_); rintro e w6 ⟨rfl, hb⟩; refine ⟨_, rfl, ?_⟩; have n0_ := Aside0.mk (below_step (by repeat (first | (with_reducible first | exact HB.out | apply below_alloc | apply pw_below_drewN | apply below_drew1) | exact HB.out)) hb); clear HB; have HB := n0_; clear n0_; (try clear hb); (try clear hb2); (try clear hk); (try clear hi)) | ((with_reducible refine gate_dst (N := 1) rfl ?_); refine box_event ?hg (N := 1) ?hd (cs := #[.int .i64 0, .int .i64 0, .string (⟨#[]⟩ : ByteArray)]) (t := 24) ?hr ?_; (case hd => rfl); (case hg => rfl); (case hr => first | (go_simp; done) | (go_simp; rfl)); intro gb123 hg w7 hbox hb; have n0_ := Aside0.mk (below_step (by repeat (first | (with_reducible first | exact HB.out | apply below_alloc | apply pw_below_drewN | apply below_drew1) | exact HB.out)) hb); have n1_ := Aside0.mk (hbox); have n2_ := Aside0.mk ((by rw [hg]; exact (below_size (by repeat (first | (with_reducible first | exact HB.out | apply below_alloc | apply pw_below_drewN | apply below_drew1) | exact HB.out))) : w.heap.size ≤ gb123)); have n3_ := Aside0.mk ((by rw [hg]; exact (below_size (by repeat (first | (with_reducible first | exact HB.out | apply below_alloc | apply pw_below_drewN | apply below_drew1) | exact HB.out))) : w.heap.size ≤ gb123)); clear HB; have HB := n0_; have BK123 := n1_; have GW123 := n2_; have GE123 := n3_; clear n0_ n1_ n2_ n3_; clear hb hbox hg; have hcz8_0 : w7.cell? ⟨gb123, 0, none⟩ = some (.int .i64 0) := (blk_cell BK123.out 0).trans rfl; have hcz8_1 : w7.cell? ⟨gb123, 1, none⟩ = some (.int .i64 0) := (blk_cell BK123.out 1).trans rfl; have hcz8_2 : w7.cell? ⟨gb123, 2, none⟩ = some (.string (⟨#[]⟩ : ByteArray)) := (blk_cell BK123.out 2).trans rfl; have hfz8_0 := blk_frozen BK123.out 0; have hfz8_1 := blk_frozen BK123.out 1; have hfz8_2 := blk_frozen BK123.out 2))
    go_ret
    exact ⟨by first | rfl | (simp [errW_none, errW_some] <;> rfl) | (simp [*, errW_none, errW_some] <;> rfl), by repeat (first | (with_reducible first | exact HB.out | apply below_alloc | apply pw_below_drewN | apply below_drew1 | refine below_set ?_ GE123.out) | exact HB.out)⟩

end Go.Proofs.Ytoghhpkmficnmaa.Al

/- One function of the program comes to what its plain twin says. This text began as the kit's own print (print.py, made by cprint.sh) and was turned by split.py: it is no printed file. -/
namespace Go.Proofs.Ytoghhpkmficnmaa.Al
open Go.RowKit Go.Proofs.YtoghhpkmficnmaaW.PrintWords Go.Proofs.YtoghhpkmficnmaaW.PrintLast Go.Proofs.YtoghhpkmficnmaaW.PrintMore
attribute [local go_sem] max2_int min2_int max_two min_two max_three min_three max_four min_four   -- for this text's walks alone
set_option linter.unusedVariables false
set_option linter.unusedSimpArgs false

/-! ### corncribref02_Check: function 19 -/
def corncribref02_Check.f (a0_0 : Int) (a0_1 : Int) (a0_2 : ByteArray) : Option (Int) := if a0_0 < 1 then (some 4) else (if a0_0 > 255 then (some 4) else (if a0_1 < 1 then (some 4) else (if a0_1 > 255 then (some 4) else (if (a0_2.size : Int) = (wrap64 (a0_0 * a0_1)) then (some 0) else (some 4)))))
set_option maxHeartbeats 8000000 in
set_option maxRecDepth 100000 in
theorem corncribref02_Check.calls (a0_0 : Int) (a0_1 : Int) (a0_2 : ByteArray) (r : Int) (w : World) (h : corncribref02_Check.f a0_0 a0_1 a0_2 = some r) :
    Calls Try.prog 19 #[.agg #[.int .i64 a0_0, .int .i64 a0_1, .string a0_2]] w fun e w' => e = .returned (.int .i64 r) ∧ Below w.heap.size w w' := by
  have hu24 := Try.underlying24
  have HB := Aside0.mk (Below.refl w.heap.size w)
  have H : (if a0_0 < 1 then (some 4) else (if a0_0 > 255 then (some 4) else (if a0_1 < 1 then (some 4) else (if a0_1 > 255 then (some 4) else (if (a0_2.size : Int) = (wrap64 (a0_0 * a0_1)) then (some 0) else (some 4)))))) = some r := h
  clear h
  by_cases c2 : a0_0 < 1
  · rw [if_pos c2] at H
    have c2b0 : decide (a0_0 < 1) = true := decide_eq_true c2
    clear c2
    obtain rfl := Option.some.inj H
    go_enter Try.func19, Try.ntmps19
    go_wp2_with (first | ((with_reducible refine gate_dst (N := 1) rfl ?_); (try (refine gate_guard (by rfl) ?_; dsimp only)); refine box_event ?hg (N := 1) ?hd (cs := #[.int .i64 a0_0, .int .i64 a0_1, .string a0_2]) (t := 24) ?hr ?_; (case hd => rfl); (case hg => rfl); (case hr => first | (go_simp; done) | (go_simp; rfl)); intro gb151 hg w3 hbox hb; have n0_ := Aside0.mk (below_step (by repeat (first | (with_reducible first | exact HB.out | apply below_alloc | apply pw_below_drewN | apply below_drew1) | exact HB.out)) hb); have n1_ := Aside0.mk (hbox); have n2_ := Aside0.mk ((by rw [hg]; exact (below_size (by repeat (first | (with_reducible first | exact HB.out | apply below_alloc | apply pw_below_drewN | apply below_drew1) | exact HB.out))) : w.heap.size ≤ gb151)); have n3_ := Aside0.mk ((by rw [hg]; exact (below_size (by repeat (first | (with_reducible first | exact HB.out | apply below_alloc | apply pw_below_drewN | apply below_drew1) | exact HB.out))) : w.heap.size ≤ gb151)); clear HB; have HB := n0_; have BK151 := n1_; have GW151 := n2_; have GE151 := n3_; clear n0_ n1_ n2_ n3_; clear hb hbox hg; have hcz4_0 : w3.cell? ⟨gb151, 0, none⟩ = some (.int .i64 a0_0) := (blk_cell BK151.out 0).trans rfl; have hcz4_1 : w3.cell? ⟨gb151, 1, none⟩ = some (.int .i64 a0_1) := (blk_cell BK151.out 1).trans rfl; have hcz4_2 : w3.cell? ⟨gb151, 2, none⟩ = some (.string a0_2) := (blk_cell BK151.out 2).trans rfl; have hfz4_0 := blk_frozen BK151.out 0; have hfz4_1 := blk_frozen BK151.out 1; have hfz4_2 := blk_frozen BK151.out 2))
    go_ret
    exact ⟨by first | rfl | (simp [errW_none, errW_some] <;> rfl) | (simp [*, errW_none, errW_some] <;> rfl), by repeat (first | (with_reducible first | exact HB.out | apply below_alloc | apply pw_below_drewN | apply below_drew1 | refine below_set ?_ GE151.out) | exact HB.out)⟩
  · rw [if_neg c2] at H
    have c2b0 : decide (a0_0 < 1) = false := decide_eq_false c2
    clear c2
    by_cases c5 : a0_0 > 255
    · rw [if_pos c5] at H
      have c5b0 : decide (255 < a0_0) = true := decide_eq_true c5
      clear c5
      obtain rfl := Option.some.inj H
      go_enter Try.func19, Try.ntmps19
      go_wp2_with (first | ((with_reducible refine gate_dst (N := 1) rfl ?_); (try (refine gate_guard (by rfl) ?_; dsimp only)); refine box_event ?hg (N := 1) ?hd (cs := #[.int .i64 a0_0, .int .i64 a0_1, .string a0_2]) (t := 24) ?hr ?_; (case hd => rfl); (case hg => rfl); (case hr => first | (go_simp; done) | (go_simp; rfl)); intro gb151 hg w6 hbox hb; have n0_ := Aside0.mk (below_step (by repeat (first | (with_reducible first | exact HB.out | apply below_alloc | apply pw_below_drewN | apply below_drew1) | exact HB.out)) hb); have n1_ := Aside0.mk (hbox); have n2_ := Aside0.mk ((by rw [hg]; exact (below_size (by repeat (first | (with_reducible first | exact HB.out | apply below_alloc | apply pw_below_drewN | apply below_drew1) | exact HB.out))) : w.heap.size ≤ gb151)); have n3_ := Aside0.mk ((by rw [hg]; exact (below_size (by repeat (first | (with_reducible first | exact HB.out | apply below_alloc | apply pw_below_drewN | apply below_drew1) | exact HB.out))) : w.heap.size ≤ gb151)); clear HB; have HB := n0_; have BK151 := n1_; have GW151 := n2_; have GE151 := n3_; clear n0_ n1_ n2_ n3_; clear hb hbox hg; have hcz7_0 : w6.cell? ⟨gb151, 0, none⟩ = some (.int .i64 a0_0) := (blk_cell BK151.out 0).trans rfl; have hcz7_1 : w6.cell? ⟨gb151, 1, none⟩ = some (.int .i64 a0_1) := (blk_cell BK151.out 1).trans rfl; have hcz7_2 : w6.cell? ⟨gb151, 2, none⟩ = some (.string a0_2) := (blk_cell BK151.out 2).trans rfl; have hfz7_0 := blk_frozen BK151.out 0; have hfz7_1 := blk_frozen BK151.out 1; have hfz7_2 := blk_frozen BK151.out 2))
      go_ret
      exact ⟨by first | rfl | (simp [errW_none, errW_some] <;> rfl) | (simp [*, errW_none, errW_some] <;> rfl), by repeat (first | (with_reducible first | exact HB.out | apply below_alloc | apply pw_below_drewN | apply below_drew1 | refine below_set ?_ GE151.out) | exact HB.out)⟩
    · rw [if_neg c5] at H
      have c5b0 : decide (255 < a0_0) = false := decide_eq_false c5
      clear c5
      by_cases c8 : a0_1 < 1
      · rw [if_pos c8] at H
        have c8b0 : decide (a0_1 < 1) = true := decide_eq_true c8
        clear c8
        obtain rfl := Option.some.inj H
        go_enter Try.func19, Try.ntmps19
        go_wp2_with (first | ((with_reducible refine gate_dst (N := 1) rfl ?_); (try (refine gate_guard (by rfl) ?_; dsimp only)); refine box_event ?hg (N := 1) ?hd (cs := #[.int .i64 a0_0, .int .i64 a0_1, .string a0_2]) (t := 24) ?hr ?_; (case hd => rfl); (case hg => rfl); (case hr => first | (go_simp; done) | (go_simp; rfl)); intro gb151 hg w9 hbox hb; have n0_ := Aside0.mk (below_step (by repeat (first | (with_reducible first | exact HB.out | apply below_alloc | apply pw_below_drewN | apply below_drew1) | exact HB.out)) hb); have n1_ := Aside0.mk (hbox); have n2_ := Aside0.mk ((by rw [hg]; exact (below_size (by repeat (first | (with_reducible first | exact HB.out | apply below_alloc | apply pw_below_drewN | apply below_drew1) | exact HB.out))) : w.heap.size ≤ gb151)); have n3_ := Aside0.mk ((by rw [hg]; exact (below_size (by repeat (first | (with_reducible first | exact HB.out | apply below_alloc | apply pw_below_drewN | apply below_drew1) | exact HB.out))) : w.heap.size ≤ gb151)); clear HB; have HB := n0_; have BK151 := n1_; have GW151 := n2_; have GE151 := n3_; clear n0_ n1_ n2_ n3_; clear hb hbox hg; have hcz10_0 : w9.cell? ⟨gb151, 0, none⟩ = some (.int .i64 a0_0) := (blk_cell BK151.out 0).trans rfl; have hcz10_1 : w9.cell? ⟨gb151, 1, none⟩ = some (.int .i64 a0_1) := (blk_cell BK151.out 1).trans rfl; have hcz10_2 : w9.cell? ⟨gb151, 2, none⟩ = some (.string a0_2) := (blk_cell BK151.out 2).trans rfl; have hfz10_0 := blk_frozen BK151.out 0; have hfz10_1 := blk_frozen BK151.out 1; have hfz10_2 := blk_frozen BK151.out 2))
        go_ret
        exact ⟨by first | rfl | (simp [errW_none, errW_some] <;> rfl) | (simp [*, errW_none, errW_some] <;> rfl), by repeat (first | (with_reducible first | exact HB.out | apply below_alloc | apply pw_below_drewN | apply below_drew1 | refine below_set ?_ GE151.out) | exact HB.out)⟩
      · rw [if_neg c8] at H
        have c8b0 : decide (a0_1 < 1) = false := decide_eq_false c8
        clear c8
        by_cases c11 : a0_1 > 255
        · rw [if_pos c11] at H
          have c11b0 : decide (255 < a0_1) = true := decide_eq_true c11
          clear c11
          obtain rfl := Option.some.inj H
          go_enter Try.func19, Try.ntmps19
          go_wp2_with (first | ((with_reducible refine gate_dst (N := 1) rfl ?_); (try (refine gate_guard (by rfl) ?_; dsimp only)); refine box_event ?hg (N := 1) ?hd (cs := #[.int .i64 a0_0, .int .i64 a0_1, .string a0_2]) (t := 24) ?hr ?_; (case hd => rfl); (case hg => rfl); (case hr => first | (go_simp; done) | (go_simp; rfl)); intro gb151 hg w12 hbox hb; have n0_ := Aside0.mk (below_step (by repeat (first | (with_reducible first | exact HB.out | apply below_alloc | apply pw_below_drewN | apply below_drew1) | exact HB.out)) hb); have n1_ := Aside0.mk (hbox); have n2_ := Aside0.mk ((by rw [hg]; exact (below_size (by repeat (first | (with_reducible first | exact HB.out | apply below_alloc | apply pw_below_drewN | apply below_drew1) | exact HB.out))) : w.heap.size ≤ gb151)); have n3_ := Aside0.mk ((by rw [hg]; exact (below_size (by repeat (first | (with_reducible first | exact HB.out | apply below_alloc | apply pw_below_drewN | apply below_drew1) | exact HB.out))) : w.heap.size ≤ gb151)); clear HB; have HB := n0_; have BK151 := n1_; have GW151 := n2_; have GE151 := n3_; clear n0_ n1_ n2_ n3_; clear hb hbox hg; have hcz13_0 : w12.cell? ⟨gb151, 0, none⟩ = some (.int .i64 a0_0) := (blk_cell BK151.out 0).trans rfl; have hcz13_1 : w12.cell? ⟨gb151, 1, none⟩ = some (.int .i64 a0_1) := (blk_cell BK151.out 1).trans rfl; have hcz13_2 : w12.cell? ⟨gb151, 2, none⟩ = some (.string a0_2) := (blk_cell BK151.out 2).trans rfl; have hfz13_0 := blk_frozen BK151.out 0; have hfz13_1 := blk_frozen BK151.out 1; have hfz13_2 := blk_frozen BK151.out 2))
          go_ret
          exact ⟨by first | rfl | (simp [errW_none, errW_some] <;> rfl) | (simp [*, errW_none, errW_some] <;> rfl), by repeat (first | (with_reducible first | exact HB.out | apply below_alloc | apply pw_below_drewN | apply below_drew1 | refine below_set ?_ GE151.out) | exact HB.out)⟩
        · rw [if_neg c11] at H
          have c11b0 : decide (255 < a0_1) = false := decide_eq_false c11
          clear c11
          by_cases c14 : (a0_2.size : Int) = (wrap64 (a0_0 * a0_1))
          · rw [if_pos c14] at H
            have c14b0 : ((a0_2.size : Int) == (wrap64 (a0_0 * a0_1))) = true := beq_iff_eq.mpr c14
            have c14b1 : ((a0_2.size : Int) != (wrap64 (a0_0 * a0_1))) = false := bne_eq_false_iff_eq.mpr c14
            clear c14
            obtain rfl := Option.some.inj H
            go_enter Try.func19, Try.ntmps19
            go_wp2_with (first | ((with_reducible refine gate_dst (N := 1) rfl ?_); (try (refine gate_guard (by rfl) ?_; dsimp only)); refine box_event ?hg (N := 1) ?hd (cs := #[.int .i64 a0_0, .int .i64 a0_1, .string a0_2]) (t := 24) ?hr ?_; (case hd => rfl); (case hg => rfl); (case hr => first | (go_simp; done) | (go_simp; rfl)); intro gb151 hg w15 hbox hb; have n0_ := Aside0.mk (below_step (by repeat (first | (with_reducible first | exact HB.out | apply below_alloc | apply pw_below_drewN | apply below_drew1) | exact HB.out)) hb); have n1_ := Aside0.mk (hbox); have n2_ := Aside0.mk ((by rw [hg]; exact (below_size (by repeat (first | (with_reducible first | exact HB.out | apply below_alloc | apply pw_below_drewN | apply below_drew1) | exact HB.out))) : w.heap.size ≤ gb151)); have n3_ := Aside0.mk ((by rw [hg]; exact (below_size (by repeat (first | (with_reducible first | exact HB.out | apply below_alloc | apply pw_below_drewN | apply below_drew1) | exact HB.out))) : w.heap.size ≤ gb151)); clear HB; have HB := n0_; have BK151 := n1_; have GW151 := n2_; have GE151 := n3_; clear n0_ n1_ n2_ n3_; clear hb hbox hg; have hcz16_0 : w15.cell? ⟨gb151, 0, none⟩ = some (.int .i64 a0_0) := (blk_cell BK151.out 0).trans rfl; have hcz16_1 : w15.cell? ⟨gb151, 1, none⟩ = some (.int .i64 a0_1) := (blk_cell BK151.out 1).trans rfl; have hcz16_2 : w15.cell? ⟨gb151, 2, none⟩ = some (.string a0_2) := (blk_cell BK151.out 2).trans rfl; have hfz16_0 := blk_frozen BK151.out 0; have hfz16_1 := blk_frozen BK151.out 1; have hfz16_2 := blk_frozen BK151.out 2))
            go_ret
            exact ⟨by first | rfl | (simp [errW_none, errW_some] <;> rfl) | (simp [*, errW_none, errW_some] <;> rfl), by repeat (first | (with_reducible first | exact HB.out | apply below_alloc | apply pw_below_drewN | apply below_drew1 | refine below_set ?_ GE151.out) | exact HB.out)⟩
          · rw [if_neg c14] at H
            have c14b0 : ((a0_2.size : Int) == (wrap64 (a0_0 * a0_1))) = false := beq_eq_false_iff_ne.mpr c14
            have c14b1 : ((a0_2.size : Int) != (wrap64 (a0_0 * a0_1))) = true := bne_iff_ne.mpr c14
            obtain rfl := Option.some.inj H
            go_enter Try.func19, Try.ntmps19
            go_wp2_with (first | ((with_reducible refine gate_dst (N := 1) rfl ?_); (try (refine gate_guard (by rfl) ?_; dsimp only)); refine box_event ?hg (N := 1) ?hd (cs := #[.int .i64 a0_0, .int .i64 a0_1, .string a0_2]) (t := 24) ?hr ?_; (case hd => rfl); (case hg => rfl); (case hr => first | (go_simp; done) | (go_simp; rfl)); intro gb151 hg w17 hbox hb; have n0_ := Aside0.mk (below_step (by repeat (first | (with_reducible first | exact HB.out | apply below_alloc | apply pw_below_drewN | apply below_drew1) | exact HB.out)) hb); have n1_ := Aside0.mk (hbox); have n2_ := Aside0.mk ((by rw [hg]; exact (below_size (by repeat (first | (with_reducible first | exact HB.out | apply below_alloc | apply pw_below_drewN | apply below_drew1) | exact HB.out))) : w.heap.size ≤ gb151)); have n3_ := Aside0.mk ((by rw [hg]; exact (below_size (by repeat (first | (with_reducible first | exact HB.out | apply below_alloc | apply pw_below_drewN | apply below_drew1) | exact HB.out))) : w.heap.size ≤ gb151)); clear HB; have HB := n0_; have BK151 := n1_; have GW151 := n2_; have GE151 := n3_; clear n0_ n1_ n2_ n3_; clear hb hbox hg; have hcz18_0 : w17.cell? ⟨gb151, 0, none⟩ = some (.int .i64 a0_0) := (blk_cell BK151.out 0).trans rfl; have hcz18_1 : w17.cell? ⟨gb151, 1, none⟩ = some (.int .i64 a0_1) := (blk_cell BK151.out 1).trans rfl; have hcz18_2 : w17.cell? ⟨gb151, 2, none⟩ = some (.string a0_2) := (blk_cell BK151.out 2).trans rfl; have hfz18_0 := blk_frozen BK151.out 0; have hfz18_1 := blk_frozen BK151.out 1; have hfz18_2 := blk_frozen BK151.out 2))
            go_ret
            exact ⟨by first | rfl | (simp [errW_none, errW_some] <;> rfl) | (simp [*, errW_none, errW_some] <;> rfl), by repeat (first | (with_reducible first | exact HB.out | apply below_alloc | apply pw_below_drewN | apply below_drew1 | refine below_set ?_ GE151.out) | exact HB.out)⟩

end Go.Proofs.Ytoghhpkmficnmaa.Al

/- One function of the program comes to what its plain twin says. This text began as the kit's own print (print.py, made by cprint.sh) and was turned by split.py: it is no printed file. -/
namespace Go.Proofs.Ytoghhpkmficnmaa.Al
open Go.RowKit Go.Proofs.YtoghhpkmficnmaaW.PrintWords Go.Proofs.YtoghhpkmficnmaaW.PrintLast Go.Proofs.YtoghhpkmficnmaaW.PrintMore
attribute [local go_sem] max2_int min2_int max_two min_two max_three min_three max_four min_four   -- for this text's walks alone
set_option linter.unusedVariables false
set_option linter.unusedSimpArgs false

attribute [local go_sem high] eqA24
/-! ### corncriblaw02_large: function 20 -/
def corncriblaw02_large.f (a0_0 : Int) (a0_1 : Int) (a0_2 : ByteArray) : Option (Bool) := if a0_0 > 16 then (some true) else (some (decide (a0_1 > 16)))
set_option maxHeartbeats 8000000 in
set_option maxRecDepth 100000 in
theorem corncriblaw02_large.calls (a0_0 : Int) (a0_1 : Int) (a0_2 : ByteArray) (r : Bool) (w : World) (h : corncriblaw02_large.f a0_0 a0_1 a0_2 = some r) :
    Calls Try.prog 20 #[.agg #[.int .i64 a0_0, .int .i64 a0_1, .string a0_2]] w fun e w' => e = .returned (.bool r) ∧ Below w.heap.size w w' := by
  have hu24 := Try.underlying24
  have HB := Aside0.mk (Below.refl w.heap.size w)
  have H : (if a0_0 > 16 then (some true) else (some (decide (a0_1 > 16)))) = some r := h
  clear h
  by_cases c2 : a0_0 > 16
  · rw [if_pos c2] at H
    have c2b0 : decide (16 < a0_0) = true := decide_eq_true c2
    clear c2
    obtain rfl := Option.some.inj H
    go_enter Try.func20, Try.ntmps20
    go_wp2_with (first | ((with_reducible refine gate_dst (N := 1) rfl ?_); refine box_event ?hg (N := 1) ?hd (cs := #[.int .i64 a0_0, .int .i64 a0_1, .string a0_2]) (t := 24) ?hr ?_; (case hd => rfl); (case hg => rfl); (case hr => first | (go_simp; done) | (go_simp; rfl)); intro gb188 hg w3 hbox hb; have n0_ := Aside0.mk (below_step (by repeat (first | (with_reducible first | exact HB.out | apply below_alloc | apply pw_below_drewN | apply below_drew1) | exact HB.out)) hb); have n1_ := Aside0.mk (hbox); have n2_ := Aside0.mk ((by rw [hg]; exact (below_size (by repeat (first | (with_reducible first | exact HB.out | apply below_alloc | apply pw_below_drewN | apply below_drew1) | exact HB.out))) : w.heap.size ≤ gb188)); have n3_ := Aside0.mk ((by rw [hg]; exact (below_size (by repeat (first | (with_reducible first | exact HB.out | apply below_alloc | apply pw_below_drewN | apply below_drew1) | exact HB.out))) : w.heap.size ≤ gb188)); clear HB; have HB := n0_; have BK188 := n1_; have GW188 := n2_; have GE188 := n3_; clear n0_ n1_ n2_ n3_; clear hb hbox hg; have hcz4_0 : w3.cell? ⟨gb188, 0, none⟩ = some (.int .i64 a0_0) := (blk_cell BK188.out 0).trans rfl; have hcz4_1 : w3.cell? ⟨gb188, 1, none⟩ = some (.int .i64 a0_1) := (blk_cell BK188.out 1).trans rfl; have hcz4_2 : w3.cell? ⟨gb188, 2, none⟩ = some (.string a0_2) := (blk_cell BK188.out 2).trans rfl; have hfz4_0 := blk_frozen BK188.out 0; have hfz4_1 := blk_frozen BK188.out 1; have hfz4_2 := blk_frozen BK188.out 2))
    go_ret
    exact ⟨by first | rfl | (simp [errW_none, errW_some] <;> rfl) | (simp [*, errW_none, errW_some] <;> rfl), by repeat (first | (with_reducible first | exact HB.out | apply below_alloc | apply pw_below_drewN | apply below_drew1 | refine below_set ?_ GE188.out) | exact HB.out)⟩
  · rw [if_neg c2] at H
    have c2b0 : decide (16 < a0_0) = false := decide_eq_false c2
    clear c2
    obtain rfl := Option.some.inj H
    go_enter Try.func20, Try.ntmps20
    go_wp2_with (first | ((with_reducible refine gate_dst (N := 1) rfl ?_); refine box_event ?hg (N := 1) ?hd (cs := #[.int .i64 a0_0, .int .i64 a0_1, .string a0_2]) (t := 24) ?hr ?_; (case hd => rfl); (case hg => rfl); (case hr => first | (go_simp; done) | (go_simp; rfl)); intro gb188 hg w5 hbox hb; have n0_ := Aside0.mk (below_step (by repeat (first | (with_reducible first | exact HB.out | apply below_alloc | apply pw_below_drewN | apply below_drew1) | exact HB.out)) hb); have n1_ := Aside0.mk (hbox); have n2_ := Aside0.mk ((by rw [hg]; exact (below_size (by repeat (first | (with_reducible first | exact HB.out | apply below_alloc | apply pw_below_drewN | apply below_drew1) | exact HB.out))) : w.heap.size ≤ gb188)); have n3_ := Aside0.mk ((by rw [hg]; exact (below_size (by repeat (first | (with_reducible first | exact HB.out | apply below_alloc | apply pw_below_drewN | apply below_drew1) | exact HB.out))) : w.heap.size ≤ gb188)); clear HB; have HB := n0_; have BK188 := n1_; have GW188 := n2_; have GE188 := n3_; clear n0_ n1_ n2_ n3_; clear hb hbox hg; have hcz6_0 : w5.cell? ⟨gb188, 0, none⟩ = some (.int .i64 a0_0) := (blk_cell BK188.out 0).trans rfl; have hcz6_1 : w5.cell? ⟨gb188, 1, none⟩ = some (.int .i64 a0_1) := (blk_cell BK188.out 1).trans rfl; have hcz6_2 : w5.cell? ⟨gb188, 2, none⟩ = some (.string a0_2) := (blk_cell BK188.out 2).trans rfl; have hfz6_0 := blk_frozen BK188.out 0; have hfz6_1 := blk_frozen BK188.out 1; have hfz6_2 := blk_frozen BK188.out 2))
    go_ret
    exact ⟨by first | rfl | (simp [errW_none, errW_some] <;> rfl) | (simp [*, errW_none, errW_some] <;> rfl), by repeat (first | (with_reducible first | exact HB.out | apply below_alloc | apply pw_below_drewN | apply below_drew1 | refine below_set ?_ GE188.out) | exact HB.out)⟩

-- NOT PRINTED: function 36 (gf_Field_Mul)

end Go.Proofs.Ytoghhpkmficnmaa.Al

/- matrix.grid's add and scale by their contracts: a row's bytes, each with another's product, or times an element. -/
namespace Go.Proofs.Ytoghhpkmficnmaa.Al
open Go.RowKit Go.Proofs.Ytoghhpkmficnmaa.GfMath Go.Proofs.Ytoghhpkmficnmaa.GfRef Go.Proofs.Ytoghhpkmficnmaa.Base Go.Proofs.Ytoghhpkmficnmaa.Bytes Go.Proofs.Ytoghhpkmficnmaa.Grid Go.Proofs.YtoghhpkmficnmaaW.PrintWords Go.Proofs.YtoghhpkmficnmaaW.PrintLast Go.Proofs.YtoghhpkmficnmaaW.PrintMore
set_option linter.unusedVariables false
set_option linter.unusedSimpArgs false
def ByF (f : Nat → Nat → Int) : Prop := ∀ i j, Byte (f i j)
def scaleI (c : Nat) (b : Int) (f : Nat → Nat → Int) (i j : Nat) : Int := if i = c then mulI b (f c j) else f i j
def scaleK (c : Nat) (b : Int) (f : Nat → Nat → Int) (k i j : Nat) : Int := if i = c ∧ j < k then mulI b (f c j) else f i j
def addI (t c : Nat) (b : Int) (f : Nat → Nat → Int) (i j : Nat) : Int := if i = t then Go.bits .xor .u8 (f t j) (mulI b (f c j)) else f i j
def addK (t c : Nat) (b : Int) (f : Nat → Nat → Int) (k i j : Nat) : Int := if i = t ∧ j < k then Go.bits .xor .u8 (f t j) (mulI b (f c j)) else f i j
theorem scaleI_by {c : Nat} {b : Int} {f : Nat → Nat → Int} (hf : ByF f) : ByF (scaleI c b f) := fun i j => by unfold scaleI; split; exact byte_mul _ _; exact hf _ _
theorem addI_by {t c : Nat} {b : Int} {f : Nat → Nat → Int} (hf : ByF f) : ByF (addI t c b f) := fun i j => by unfold addI; split; exact (byte_xor (hf _ _) (byte_mul _ _)).1; exact hf _ _
theorem gcell {W : World} {B g0 cap n m : Nat} {rs : List (Nat × Nat)} {f : Nat → Nat → Int} (h : Grid B W (.slice (some ⟨g0, 0, none⟩) n cap) m (rs.map some) rs f) (hn : rs.length = n) {i : Nat} (hi : i < n) : ∃ rb c, rs[i]? = some (rb, c) ∧ W.cell? ⟨g0, i, none⟩ = some (.slice (some ⟨rb, 0, none⟩) m c) ∧ Br W rb m (f i) := by
  have h2 : rs[i]? = some (rs[i]'(by omega)) := List.getElem?_eq_getElem (by omega)
  refine ⟨(rs[i]'(by omega)).1, (rs[i]'(by omega)).2, h2, ?_, (h.row i _ h2).1⟩
  rw [(h.outer hi).1]
  simp [rowV, List.getD_eq_getElem?_getD, h2]
/-- What a world keeps of another one, but for a grid's rows. -/
def KeepR (rs : List (Nat × Nat)) (w w' : World) : Prop := w.heap.size ≤ w'.heap.size ∧ ∀ i, i < w.heap.size → (∀ p, p ∈ rs → p.1 ≠ i) → w'.heap[i]? = w.heap[i]?
theorem KeepR.refl (rs : List (Nat × Nat)) (w : World) : KeepR rs w w := ⟨Nat.le_refl _, fun _ _ _ => rfl⟩
theorem KeepR.drewN {rs : List (Nat × Nat)} {w w' : World} (h : KeepR rs w w') (n : Nat) : KeepR rs w (w'.drewN n) := h
theorem KeepR.drew {rs : List (Nat × Nat)} {w w' : World} (h : KeepR rs w w') : KeepR rs w w'.drew := h
theorem KeepR.set {rs : List (Nat × Nat)} {w w' : World} (h : KeepR rs w w') {i : Nat} {p : Nat × Nat} (hp : rs[i]? = some p) (j : Nat) (u : Value) : KeepR rs w (w'.setCell ⟨p.1, j, none⟩ u) :=
  ⟨by simpa [World.setCell] using h.1, fun k hk hr => (Below.heap_setCell w' ⟨p.1, j, none⟩ u k (fun e => hr p (List.mem_of_getElem? hp) e.symm)).trans (h.2 k hk hr)⟩
theorem KeepR.trans {rs : List (Nat × Nat)} {w w1 w2 : World} (h : KeepR rs w w1) (k : KeepR rs w1 w2) : KeepR rs w w2 :=
  ⟨Nat.le_trans h.1 k.1, fun i hi hr => (k.2 i (Nat.lt_of_lt_of_le hi h.1) hr).trans (h.2 i hi hr)⟩
def rg39_3_T : Bool × List (List Nat × List Nat) := (true, [([], []), ([], []), ([0, 1], [0, 1]), ([2], [2]), ([], []), ([], []), ([], []), ([], []), ([5, 6, 7], [5, 6, 7]), ([3, 4, 0, 1, 2, 3, 4, 5, 6, 7, 8], [3, 4]), ([9, 8, 8, 0, 1, 2, 3, 4, 5, 6, 7, 8], [8, 9])])
def rg39_3_B : List Nat := [0, 0, 3, 7, 0, 0, 0, 0, 224, 511, 1023]
theorem rg39_3_tab : rtab .any (opsOf Try.f39 3) = rg39_3_T := by kernel_rfl
theorem rg39_3_bits : waitsOk rg39_3_T.2 rg39_3_B = true := by kernel_rfl
def rg40_3_T : Bool × List (List Nat × List Nat) := (true, [([], []), ([], []), ([0, 1], [0, 1]), ([2], [2]), ([], []), ([3, 4], [3, 4]), ([5], [5]), ([], []), ([], []), ([], []), ([7, 8, 9], [7, 8, 9]), ([6, 10], [6, 10]), ([3, 4, 0, 1, 2, 3, 4, 5, 6, 7, 8, 9, 10, 11], [3, 4]), ([12, 11, 10, 0, 1, 2, 3, 4, 5, 6, 7, 8, 9, 10, 11], [11, 12])])
def rg40_3_B : List Nat := [0, 0, 3, 7, 0, 31, 63, 0, 0, 0, 896, 2047, 4095, 8191]
theorem rg40_3_tab : rtab .any (opsOf Try.f40 3) = rg40_3_T := by kernel_rfl
theorem rg40_3_bits : waitsOk rg40_3_T.2 rg40_3_B = true := by kernel_rfl
set_option maxHeartbeats 8000000 in
set_option maxRecDepth 100000 in
theorem scale_calls (w0 : World) (gf g0 cap n m : Nat) (rs : List (Nat × Nat)) (f : Nat → Nat → Int) (c : Nat) (b : Int) (W : World) (ht : Tab W gf) (hG : Grid w0.heap.size W (.slice (some ⟨g0, 0, none⟩) n cap) m (rs.map some) rs f) (hrs : rs.length = n) (hc : c < n) (hm : m ≤ 255) (hb : Byte b) (hf : ByF f) (hB : Below w0.heap.size w0 W) :
    Calls Try.prog 39 #[.slice (some ⟨g0, 0, none⟩) n cap, .pointer (some ⟨gf, 0, none⟩), .int .i64 c, .int .u8 b] W fun e W' => e = .returned (.tuple #[]) ∧ Grid w0.heap.size W' (.slice (some ⟨g0, 0, none⟩) n cap) m (rs.map some) rs (scaleI c b f) ∧ KeepR rs W W' ∧ Below w0.heap.size w0 W' := by
  obtain ⟨rb, cb, hrb, ho, hr⟩ := gcell hG hrs hc
  have HT := Aside0.mk ht
  have HBB := Aside0.mk hB
  clear hB
  have HG := Aside0.mk hG
  have HRB := Aside0.mk hrb
  have HF := Aside0.mk hf
  have HO := Aside0.mk ho
  have c1 : decide ((c : Int) < (n : Int)) = true := decide_eq_true (by omega)
  have c2 : decide (c < n) = true := decide_eq_true hc
  clear ht hG hrb hf hr
  go_enter Try.func39, Try.ntmps39
  go_wp2
  clear ho
  go_loopw [8, 9, 15] (fun v8 v9 v15 wr => ∃ k : Nat, v15 = .int .i64 k ∧ k ≤ m ∧ Aside0 (Grid w0.heap.size wr (.slice (some ⟨g0, 0, none⟩) n cap) m (rs.map some) rs (scaleK c b f k)) ∧ Aside0 (KeepR rs W wr) ∧ Aside0 (Below w0.heap.size w0 wr)) (fun _ _ v15 _ => m - (intOf v15).toNat)
  case atStart => exact ⟨0, rfl, Nat.zero_le _, ⟨HG.out.congr fun i j _ _ => by simp [scaleK]⟩, ⟨KeepR.refl _ _⟩, HBB⟩
  case round =>
    obtain ⟨k, rfl, hk, HGr, HK, HBr⟩ := hrel
    by_cases hlt : k < m
    · obtain ⟨hrow, _⟩ := HGr.out.row c _ HRB.out
      have hx : wr.cell? ⟨rb, k, none⟩ = some (.int .u8 (f c k)) := by have := hrow.cell hlt; rwa [show scaleK c b f k c k = f c k from by simp [scaleK]] at this
      have hz := hrow.frozen hlt
      have ho := (HK.out.2 g0 (World.block_lt_of_cell? W ⟨g0, 0 + c, none⟩ (by simpa using HO.out)) (fun p hp he => by
        obtain ⟨i, hi⟩ := List.mem_iff_getElem?.1 hp
        obtain ⟨cells, hcc⟩ := Kd.R_typed HG.out.out g0 (by simp [Value.ownBlock])
        exact (HG.out.row i p hi).1.ne hcc (by decide) he))
      have hoc : wr.cell? ⟨g0, c, none⟩ = some (.slice (some ⟨rb, 0, none⟩) m cb) := by
        have h1 := HO.out
        unfold World.cell? at h1 ⊢
        rw [show (⟨g0, c, none⟩ : Addr).block = g0 from rfl] at h1 ⊢
        rw [ho]; exact h1
      have HT1 : Aside0 (Tab wr gf) := ⟨by
        obtain ⟨cs, hcs, hok⟩ := HT.out
        refine ⟨cs, (HK.out.2 gf (blk_lt hcs) (fun p hp he => ?_)).trans hcs, hok⟩
        obtain ⟨i, hi⟩ := List.mem_iff_getElem?.1 hp
        exact (HG.out.row i p hi).1.ne hcs (by decide) he⟩
      have hby := HF.out c k
      have HBY := Aside0.mk hby
      have HGd := HGr.out.below (below_drew (Below.refl _ wr))
      have HTd := HT1.out.below (below_drew (Below.refl _ wr))
      have HKd := HK.out.drew
      have HBd := below_drew1 HBr.out
      have hxd : wr.drew.cell? ⟨g0, c, none⟩ = some (.slice (some ⟨rb, 0, none⟩) m cb) := hoc
      have hzd : wr.drew.cell? ⟨rb, k, none⟩ = some (.int .u8 (f c k)) := hx
      have hfd : wr.drew.frozen? ⟨rb, k, none⟩ = false := hz
      have c3 : decide ((k : Int) < (m : Int)) = true := decide_eq_true (by omega)
      have c4 : (0 : Int) ≤ (k : Int) := by omega
      clear ho hrow hby
      go_wp2
      refine start_ (n := 11) (S := fun w' => w'.cell? ⟨g0, c, none⟩ = some (.slice (some ⟨rb, 0, none⟩) m cb)) (ds := [10]) #[false, false, false, false, false, false, false, false, false, false, false] (by kernel_rfl) rfl rfl hxd (fun hHeld => ?_)
      refine with_tabW rg39_3_tab rg39_3_bits (fun HT_ HW_ => ?_)
      obtain ⟨W1, hW1⟩ : ∃ W, W = wr.drew := ⟨_, rfl⟩
      rw [← hW1] at hHeld HGd HTd HKd HBd hzd hfd ⊢
      have HG1 := Aside0.mk HGd
      have HT2 := Aside0.mk HTd
      have HK1 := Aside0.mk HKd
      have HB1 := Aside0.mk HBd
      clear hW1 hxd HGd HTd HKd HBd hx hz hoc
      refine pure_ (i := 0) (N := some 20) (v := ?_) (a' := ?_) #[true, false, false, false, false, false, false, false, false, false, false] rfl rfl (any_of HT_.out (by kernel_rfl)) (fun _ _ _ h => h) (Or.inl ⟨by rfl, ?_⟩) ?_ ?_
      rotate_left
      · intro w'
        go_simp
        with_reducible rfl
      rotate_left
      · simp only [Act.put, List.setIfInBounds_toArray, List.set_cons_zero, List.set_cons_succ, i64_w, i32_w]
        rfl
      refine pure_ (i := 1) (N := some 21) (v := ?_) (a' := ?_) #[true, true, false, false, false, false, false, false, false, false, false] rfl rfl (any_of HT_.out (by kernel_rfl)) (fun _ _ _ h => h) (Or.inl ⟨by rfl, ?_⟩) ?_ ?_
      rotate_left
      · intro w'
        go_simp
        with_reducible rfl
      rotate_left
      · simp only [Act.put, List.setIfInBounds_toArray, List.set_cons_zero, List.set_cons_succ, i64_w, i32_w]
        rfl
      refine pure_ (i := 2) (N := some 22) (v := ?_) (a' := ?_) #[true, true, true, false, false, false, false, false, false, false, false] rfl rfl (any_of HT_.out (by kernel_rfl)) (fun _ _ _ h => h) (Or.inl ⟨by rfl, ?_⟩) ?_ ?_
      rotate_left
      · intro w'
        go_simp
        with_reducible rfl
      rotate_left
      · simp only [Act.put, List.setIfInBounds_toArray, List.set_cons_zero, List.set_cons_succ, i64_w, i32_w]
        rfl
      refine take_ (i := 3) (N := some 23) (v := ?_) (a' := ?_) #[true, true, true, true, false, false, false, false, false, false, false] rfl rfl (take_ofW HT_.out HW_.out (by kernel_rfl)) (fun _ _ _ h => h) (Or.inl ⟨by rfl, ?_⟩) hHeld ?_ ?_
      rotate_left
      · rintro w' s0
        go_simp
        with_reducible rfl
      rotate_left
      · simp only [Act.put, List.setIfInBounds_toArray, List.set_cons_zero, List.set_cons_succ, i64_w, i32_w]
        rfl
      refine pure_ (i := 4) (N := some 24) (v := ?_) (a' := ?_) #[true, true, true, true, true, false, false, false, false, false, false] rfl rfl (any_of HT_.out (by kernel_rfl)) (fun _ _ _ h => h) (Or.inl ⟨by rfl, ?_⟩) ?_ ?_
      rotate_left
      · intro w'
        go_simp
        with_reducible rfl
      rotate_left
      · simp only [Act.put, List.setIfInBounds_toArray, List.set_cons_zero, List.set_cons_succ, i64_w, i32_w]
        rfl
      refine pure_ (i := 5) (N := some 25) (v := ?_) (a' := ?_) #[true, true, true, true, true, true, false, false, false, false, false] rfl rfl (any_of HT_.out (by kernel_rfl)) (fun _ _ _ h => h) (Or.inl ⟨by rfl, ?_⟩) ?_ ?_
      rotate_left
      · intro w'
        go_simp
        with_reducible rfl
      rotate_left
      · simp only [Act.put, List.setIfInBounds_toArray, List.set_cons_zero, List.set_cons_succ, i64_w, i32_w]
        rfl
      refine pure_ (i := 6) (N := some 26) (v := ?_) (a' := ?_) #[true, true, true, true, true, true, true, false, false, false, false] rfl rfl (any_of HT_.out (by kernel_rfl)) (fun _ _ _ h => h) (Or.inl ⟨by rfl, ?_⟩) ?_ ?_
      rotate_left
      · intro w'
        go_simp
        with_reducible rfl
      rotate_left
      · simp only [Act.put, List.setIfInBounds_toArray, List.set_cons_zero, List.set_cons_succ, i64_w, i32_w]
        rfl
      refine pure_ (i := 7) (N := some 27) (v := ?_) (a' := ?_) #[true, true, true, true, true, true, true, true, false, false, false] rfl rfl (any_of HT_.out (by kernel_rfl)) (fun _ _ _ h => h) (Or.inl ⟨by rfl, ?_⟩) ?_ ?_
      rotate_left
      · intro w'
        go_simp
        with_reducible rfl
      rotate_left
      · simp only [Act.put, List.setIfInBounds_toArray, List.set_cons_zero, List.set_cons_succ, i64_w, i32_w]
        rfl
      refine one_ (i := 8) (N := some 28) #[true, true, true, true, true, true, true, true, true, false, false] rfl rfl (one_of HT_.out (by kernel_rfl)) (by decide) (fun K hK => ?_)
      (refine goes_ Try.func36 (by kernel_rfl) rfl #[.pointer (some ⟨gf, 0, none⟩), .int .u8 b, .int .u8 (f c k)] (by rfl) rfl rfl (by (try simp only [List.map_toArray, List.map_cons, List.map_nil]); first | done | rfl) ?_; refine (gMul gf b (f c k) _ HT2.out hb HBY.out).mono ?_; rintro e w' ⟨rfl, nd, rfl⟩; refine ⟨_, rfl, ?_⟩)
      refine hK.out _ _ hHeld (fun hHeld => ?_)
      clear hK K
      try simp only [Act.put, List.setIfInBounds_toArray, List.set_cons_zero, List.set_cons_succ, i64_w, i32_w]
      refine pure_ (i := 9) (N := some 29) (v := ?_) (a' := ?_) #[true, true, true, true, true, true, true, true, true, true, false] rfl rfl (any_of HT_.out (by kernel_rfl)) (fun _ _ _ h => h) (Or.inl ⟨by rfl, ?_⟩) ?_ ?_
      rotate_left
      · intro w'
        go_simp
        with_reducible rfl
      rotate_left
      · simp only [Act.put, List.setIfInBounds_toArray, List.set_cons_zero, List.set_cons_succ, i64_w, i32_w]
        rfl
      have hzn : (W1.drewN nd).cell? ⟨rb, k, none⟩ = some (.int .u8 (f c k)) := hzd
      have hfn : (W1.drewN nd).frozen? ⟨rb, k, none⟩ = false := hfd
      have HG2 := Aside0.mk (HG1.out.drewN nd)
      have HK2 := Aside0.mk (HK1.out.drewN nd)
      have HB2 := Aside0.mk (pw_below_drewN HB1.out nd)
      clear hzd hfd
      generalize W1.drewN nd = W2 at *
      refine last_ (i := 10) (N := none) #[true, true, true, true, true, true, true, true, true, true, true] rfl rfl (one_of HT_.out (by kernel_rfl)) (by decide) (fun K hK => ?_)
      (refine skip_ (w1 := ?_) (by rfl) rfl ?_ ?_; rotate_left; · (go_simp; rfl))
      refine hK.out _ _ ?_
      clear hK K
      try simp only [Act.put, List.setIfInBounds_toArray, List.set_cons_zero, List.set_cons_succ, i64_w, i32_w]
      refine done_ (done_of HT_.out (by kernel_rfl)) ?_
      go_wp2
      go_roundw
      case rel =>
        refine ⟨k + 1, by go_num, hlt, ⟨(HG2.out.set HRB.out hlt _).congr fun i j _ _ => ?_⟩, ⟨HK2.out.set HRB.out k _⟩, ⟨below_set HB2.out (HG2.out.row c _ HRB.out).2⟩⟩
        unfold scaleK
        by_cases e1 : i = c
        · by_cases e2 : j = k
          · rw [if_pos ⟨e1, e2⟩, if_pos ⟨e1, by omega⟩, e2]
          · rw [if_neg (fun h => e2 h.2)]
            by_cases e3 : j < k
            · rw [if_pos ⟨e1, e3⟩, if_pos ⟨e1, by omega⟩]
            · rw [if_neg (fun h => e3 h.2), if_neg (fun h => by have := h.2; omega)]
        · rw [if_neg (fun h => e1 h.1), if_neg (fun h => e1 h.1), if_neg (fun h => e1 h.1)]
      case measure => simp [intOf]; omega
    · obtain rfl : k = m := by omega
      go_wp2
      go_end0
      refine ⟨rfl, HGr.out.congr (fun i j _ hj => ?_), HK.out, HBr.out⟩
      unfold scaleK scaleI
      by_cases e : i = c
      · rw [if_pos ⟨e, hj⟩, if_pos e]
      · rw [if_neg (fun h => e h.1), if_neg e]
set_option maxHeartbeats 8000000 in
set_option maxRecDepth 100000 in
theorem add_calls (w0 : World) (gf g0 cap n m : Nat) (rs : List (Nat × Nat)) (f : Nat → Nat → Int) (t c : Nat) (b : Int) (W : World) (ht : Tab W gf) (hG : Grid w0.heap.size W (.slice (some ⟨g0, 0, none⟩) n cap) m (rs.map some) rs f) (hrs : rs.length = n) (hc : c < n) (htn : t < n) (hne : t ≠ c) (hm : m ≤ 255) (hb : Byte b) (hf : ByF f) (hB : Below w0.heap.size w0 W) :
    Calls Try.prog 40 #[.slice (some ⟨g0, 0, none⟩) n cap, .pointer (some ⟨gf, 0, none⟩), .int .i64 t, .int .u8 b, .int .i64 c] W fun e W' => e = .returned (.tuple #[]) ∧ Grid w0.heap.size W' (.slice (some ⟨g0, 0, none⟩) n cap) m (rs.map some) rs (addI t c b f) ∧ KeepR rs W W' ∧ Below w0.heap.size w0 W' := by
  obtain ⟨rb, cb, hrb, ho, hr⟩ := gcell hG hrs hc
  obtain ⟨rt, ct, hrt, hot, hr2⟩ := gcell hG hrs htn
  have HT := Aside0.mk ht
  have HBB := Aside0.mk hB
  clear hB
  have HG := Aside0.mk hG
  have HRB := Aside0.mk hrb
  have HRT := Aside0.mk hrt
  have HF := Aside0.mk hf
  have HOT := Aside0.mk hot
  have c1 : decide ((c : Int) < (n : Int)) = true := decide_eq_true (by omega)
  have c2 : decide (c < n) = true := decide_eq_true hc
  have c5 : decide ((t : Int) < (n : Int)) = true := decide_eq_true (by omega)
  have c6 : decide (t < n) = true := decide_eq_true htn
  have HNE := Aside0.mk hne
  clear ht hG hrb hf hr hrt hr2 hot hne
  go_enter Try.func40, Try.ntmps40
  go_wp2
  clear ho
  go_loopw [10, 11, 17] (fun v10 v11 v17 wr => ∃ k : Nat, v17 = .int .i64 k ∧ k ≤ m ∧ Aside0 (Grid w0.heap.size wr (.slice (some ⟨g0, 0, none⟩) n cap) m (rs.map some) rs (addK t c b f k)) ∧ Aside0 (KeepR rs W wr) ∧ Aside0 (Below w0.heap.size w0 wr)) (fun _ _ v17 _ => m - (intOf v17).toNat)
  case atStart => exact ⟨0, rfl, Nat.zero_le _, ⟨HG.out.congr fun i j _ _ => by simp [addK]⟩, ⟨KeepR.refl _ _⟩, HBB⟩
  case round =>
    obtain ⟨k, rfl, hk, HGr, HK, HBr⟩ := hrel
    by_cases hlt : k < m
    · obtain ⟨hrow, _⟩ := HGr.out.row c _ HRB.out
      obtain ⟨hrow2, _⟩ := HGr.out.row t _ HRT.out
      have hne := HNE.out
      have hx : wr.cell? ⟨rb, k, none⟩ = some (.int .u8 (f c k)) := by have := hrow.cell hlt; rwa [show addK t c b f k c k = f c k from by unfold addK; rw [if_neg (fun h => hne h.1.symm)]] at this
      have hx2 : wr.cell? ⟨rt, k, none⟩ = some (.int .u8 (f t k)) := by have := hrow2.cell hlt; rwa [show addK t c b f k t k = f t k from by unfold addK; rw [if_neg (fun h => by have := h.2; omega)]] at this
      have hz := hrow2.frozen hlt
      have ho := (HK.out.2 g0 (World.block_lt_of_cell? W ⟨g0, 0 + t, none⟩ (by simpa using HOT.out)) (fun p hp he => by
        obtain ⟨i, hi⟩ := List.mem_iff_getElem?.1 hp
        obtain ⟨cells, hcc⟩ := Kd.R_typed HG.out.out g0 (by simp [Value.ownBlock])
        exact (HG.out.row i p hi).1.ne hcc (by decide) he))
      have hot : wr.cell? ⟨g0, t, none⟩ = some (.slice (some ⟨rt, 0, none⟩) m ct) := by
        have h1 := HOT.out
        unfold World.cell? at h1 ⊢
        rw [show (⟨g0, t, none⟩ : Addr).block = g0 from rfl] at h1 ⊢
        rw [ho]; exact h1
      have HT1 : Aside0 (Tab wr gf) := ⟨by
        obtain ⟨cs, hcs, hok⟩ := HT.out
        refine ⟨cs, (HK.out.2 gf (blk_lt hcs) (fun p hp he => ?_)).trans hcs, hok⟩
        obtain ⟨i, hi⟩ := List.mem_iff_getElem?.1 hp
        exact (HG.out.row i p hi).1.ne hcs (by decide) he⟩
      have HBY := Aside0.mk (HF.out c k)
      have HBY2 := Aside0.mk (HF.out t k)
      have HGd := HGr.out.below (below_drew (Below.refl _ wr))
      have HTd := HT1.out.below (below_drew (Below.refl _ wr))
      have HKd := HK.out.drew
      have HBd := below_drew1 HBr.out
      have hxd : wr.drew.cell? ⟨g0, t, none⟩ = some (.slice (some ⟨rt, 0, none⟩) m ct) := hot
      have hzd : wr.drew.cell? ⟨rt, k, none⟩ = some (.int .u8 (f t k)) := hx2
      have hfd : wr.drew.frozen? ⟨rt, k, none⟩ = false := hz
      have c3 : decide ((k : Int) < (m : Int)) = true := decide_eq_true (by omega)
      have c4 : (0 : Int) ≤ (k : Int) := by omega
      clear ho hrow hrow2 hne hz
      go_wp2
      refine start_ (n := 14) (S := fun w' => w'.cell? ⟨g0, t, none⟩ = some (.slice (some ⟨rt, 0, none⟩) m ct) ∧ w'.cell? ⟨rt, k, none⟩ = some (.int .u8 (f t k))) (ds := [13]) #[false, false, false, false, false, false, false, false, false, false, false, false, false, false] (by kernel_rfl) rfl rfl ⟨hxd, hzd⟩ (fun hHeld => ?_)
      refine with_tabW rg40_3_tab rg40_3_bits (fun HT_ HW_ => ?_)
      obtain ⟨W1, hW1⟩ : ∃ W, W = wr.drew := ⟨_, rfl⟩
      rw [← hW1] at hHeld HGd HTd HKd HBd hzd hfd ⊢
      have HG1 := Aside0.mk HGd
      have HT2 := Aside0.mk HTd
      have HK1 := Aside0.mk HKd
      have HB1 := Aside0.mk HBd
      clear hW1 hxd HGd HTd HKd HBd hx hx2 hot
      refine pure_ (i := 0) (N := some 22) (v := ?_) (a' := ?_) #[true, false, false, false, false, false, false, false, false, false, false, false, false, false] rfl rfl (any_of HT_.out (by kernel_rfl)) (fun _ _ _ h => h) (Or.inl ⟨by rfl, ?_⟩) ?_ ?_
      rotate_left
      · intro w'
        go_simp
        with_reducible rfl
      rotate_left
      · simp only [Act.put, List.setIfInBounds_toArray, List.set_cons_zero, List.set_cons_succ, i64_w, i32_w]
        rfl
      refine pure_ (i := 1) (N := some 23) (v := ?_) (a' := ?_) #[true, true, false, false, false, false, false, false, false, false, false, false, false, false] rfl rfl (any_of HT_.out (by kernel_rfl)) (fun _ _ _ h => h) (Or.inl ⟨by rfl, ?_⟩) ?_ ?_
      rotate_left
      · intro w'
        go_simp
        with_reducible rfl
      rotate_left
      · simp only [Act.put, List.setIfInBounds_toArray, List.set_cons_zero, List.set_cons_succ, i64_w, i32_w]
        rfl
      refine pure_ (i := 2) (N := some 24) (v := ?_) (a' := ?_) #[true, true, true, false, false, false, false, false, false, false, false, false, false, false] rfl rfl (any_of HT_.out (by kernel_rfl)) (fun _ _ _ h => h) (Or.inl ⟨by rfl, ?_⟩) ?_ ?_
      rotate_left
      · intro w'
        go_simp
        with_reducible rfl
      rotate_left
      · simp only [Act.put, List.setIfInBounds_toArray, List.set_cons_zero, List.set_cons_succ, i64_w, i32_w]
        rfl
      refine take_ (i := 3) (N := some 25) (v := ?_) (a' := ?_) #[true, true, true, true, false, false, false, false, false, false, false, false, false, false] rfl rfl (take_ofW HT_.out HW_.out (by kernel_rfl)) (fun _ _ _ h => h) (Or.inl ⟨by rfl, ?_⟩) hHeld ?_ ?_
      rotate_left
      · rintro w' ⟨s0, s1⟩
        go_simp
        with_reducible rfl
      rotate_left
      · simp only [Act.put, List.setIfInBounds_toArray, List.set_cons_zero, List.set_cons_succ, i64_w, i32_w]
        rfl
      refine pure_ (i := 4) (N := some 26) (v := ?_) (a' := ?_) #[true, true, true, true, true, false, false, false, false, false, false, false, false, false] rfl rfl (any_of HT_.out (by kernel_rfl)) (fun _ _ _ h => h) (Or.inl ⟨by rfl, ?_⟩) ?_ ?_
      rotate_left
      · intro w'
        go_simp
        with_reducible rfl
      rotate_left
      · simp only [Act.put, List.setIfInBounds_toArray, List.set_cons_zero, List.set_cons_succ, i64_w, i32_w]
        rfl
      refine pure_ (i := 5) (N := some 27) (v := ?_) (a' := ?_) #[true, true, true, true, true, true, false, false, false, false, false, false, false, false] rfl rfl (any_of HT_.out (by kernel_rfl)) (fun _ _ _ h => h) (Or.inl ⟨by rfl, ?_⟩) ?_ ?_
      rotate_left
      · intro w'
        go_simp
        with_reducible rfl
      rotate_left
      · simp only [Act.put, List.setIfInBounds_toArray, List.set_cons_zero, List.set_cons_succ, i64_w, i32_w]
        rfl
      refine take_ (i := 6) (N := some 28) (v := ?_) (a' := ?_) #[true, true, true, true, true, true, true, false, false, false, false, false, false, false] rfl rfl (take_ofW HT_.out HW_.out (by kernel_rfl)) (fun _ _ _ h => h) (Or.inl ⟨by rfl, ?_⟩) hHeld ?_ ?_
      rotate_left
      · rintro w' ⟨s0, s1⟩
        go_simp
        with_reducible rfl
      rotate_left
      · simp only [Act.put, List.setIfInBounds_toArray, List.set_cons_zero, List.set_cons_succ, i64_w, i32_w]
        rfl
      refine pure_ (i := 7) (N := some 29) (v := ?_) (a' := ?_) #[true, true, true, true, true, true, true, true, false, false, false, false, false, false] rfl rfl (any_of HT_.out (by kernel_rfl)) (fun _ _ _ h => h) (Or.inl ⟨by rfl, ?_⟩) ?_ ?_
      rotate_left
      · intro w'
        go_simp
        with_reducible rfl
      rotate_left
      · simp only [Act.put, List.setIfInBounds_toArray, List.set_cons_zero, List.set_cons_succ, i64_w, i32_w]
        rfl
      refine pure_ (i := 8) (N := some 30) (v := ?_) (a' := ?_) #[true, true, true, true, true, true, true, true, true, false, false, false, false, false] rfl rfl (any_of HT_.out (by kernel_rfl)) (fun _ _ _ h => h) (Or.inl ⟨by rfl, ?_⟩) ?_ ?_
      rotate_left
      · intro w'
        go_simp
        with_reducible rfl
      rotate_left
      · simp only [Act.put, List.setIfInBounds_toArray, List.set_cons_zero, List.set_cons_succ, i64_w, i32_w]
        rfl
      refine pure_ (i := 9) (N := some 31) (v := ?_) (a' := ?_) #[true, true, true, true, true, true, true, true, true, true, false, false, false, false] rfl rfl (any_of HT_.out (by kernel_rfl)) (fun _ _ _ h => h) (Or.inl ⟨by rfl, ?_⟩) ?_ ?_
      rotate_left
      · intro w'
        go_simp
        with_reducible rfl
      rotate_left
      · simp only [Act.put, List.setIfInBounds_toArray, List.set_cons_zero, List.set_cons_succ, i64_w, i32_w]
        rfl
      refine one_ (i := 10) (N := some 32) #[true, true, true, true, true, true, true, true, true, true, true, false, false, false] rfl rfl (one_of HT_.out (by kernel_rfl)) (by decide) (fun K hK => ?_)
      (refine goes_ Try.func36 (by kernel_rfl) rfl #[.pointer (some ⟨gf, 0, none⟩), .int .u8 b, .int .u8 (f c k)] (by rfl) rfl rfl (by (try simp only [List.map_toArray, List.map_cons, List.map_nil]); first | done | rfl) ?_; refine (gMul gf b (f c k) _ HT2.out hb HBY.out).mono ?_; rintro e w' ⟨rfl, nd, rfl⟩; refine ⟨_, rfl, ?_⟩)
      refine hK.out _ _ hHeld (fun hHeld => ?_)
      clear hK K
      try simp only [Act.put, List.setIfInBounds_toArray, List.set_cons_zero, List.set_cons_succ, i64_w, i32_w]
      refine pure_ (i := 11) (N := some 33) (v := ?_) (a' := ?_) #[true, true, true, true, true, true, true, true, true, true, true, true, false, false] rfl rfl (any_of HT_.out (by kernel_rfl)) (fun _ _ _ h => h) (Or.inl ⟨by rfl, ?_⟩) ?_ ?_
      rotate_left
      · intro w'
        go_simp
        with_reducible rfl
      rotate_left
      · simp only [Act.put, List.setIfInBounds_toArray, List.set_cons_zero, List.set_cons_succ, i64_w, i32_w]
        rfl
      refine pure_ (i := 12) (N := some 34) (v := ?_) (a' := ?_) #[true, true, true, true, true, true, true, true, true, true, true, true, true, false] rfl rfl (any_of HT_.out (by kernel_rfl)) (fun _ _ _ h => h) (Or.inl ⟨by rfl, ?_⟩) ?_ ?_
      rotate_left
      · intro w'
        go_simp
        with_reducible rfl
      rotate_left
      · simp only [Act.put, List.setIfInBounds_toArray, List.set_cons_zero, List.set_cons_succ, i64_w, i32_w]
        rfl
      have hzn : (W1.drewN nd).cell? ⟨rt, k, none⟩ = some (.int .u8 (f t k)) := hzd
      have hfn : (W1.drewN nd).frozen? ⟨rt, k, none⟩ = false := hfd
      have HG2 := Aside0.mk (HG1.out.drewN nd)
      have HK2 := Aside0.mk (HK1.out.drewN nd)
      have HB2 := Aside0.mk (pw_below_drewN HB1.out nd)
      clear hzd hfd
      generalize W1.drewN nd = W2 at *
      refine last_ (i := 13) (N := none) #[true, true, true, true, true, true, true, true, true, true, true, true, true, true] rfl rfl (one_of HT_.out (by kernel_rfl)) (by decide) (fun K hK => ?_)
      (refine skip_ (w1 := ?_) (by rfl) rfl ?_ ?_; rotate_left; · (go_simp; rfl))
      refine hK.out _ _ ?_
      clear hK K
      try simp only [Act.put, List.setIfInBounds_toArray, List.set_cons_zero, List.set_cons_succ, i64_w, i32_w]
      refine done_ (done_of HT_.out (by kernel_rfl)) ?_
      go_wp2
      go_roundw
      case rel =>
        refine ⟨k + 1, by go_num, hlt, ⟨(HG2.out.set HRT.out hlt _).congr fun i j _ _ => ?_⟩, ⟨HK2.out.set HRT.out k _⟩, ⟨below_set HB2.out (HG2.out.row t _ HRT.out).2⟩⟩
        unfold addK
        by_cases e1 : i = t
        · by_cases e2 : j = k
          · rw [if_pos ⟨e1, e2⟩, if_pos ⟨e1, by omega⟩, e2]
          · rw [if_neg (fun h => e2 h.2)]
            by_cases e3 : j < k
            · rw [if_pos ⟨e1, e3⟩, if_pos ⟨e1, by omega⟩]
            · rw [if_neg (fun h => e3 h.2), if_neg (fun h => by have := h.2; omega)]
        · rw [if_neg (fun h => e1 h.1), if_neg (fun h => e1 h.1), if_neg (fun h => e1 h.1)]
      case measure => simp [intOf]; omega
    · obtain rfl : k = m := by omega
      go_wp2
      go_end0
      refine ⟨rfl, HGr.out.congr (fun i j _ hj => ?_), HK.out, HBr.out⟩
      unfold addK addI
      by_cases e : i = t
      · rw [if_pos ⟨e, hj⟩, if_pos e]
      · rw [if_neg (fun h => e h.1), if_neg e]
end Go.Proofs.Ytoghhpkmficnmaa.Al

/- matrix.grid's swap by its contract: two rows change places. -/
namespace Go.Proofs.Ytoghhpkmficnmaa.Al
open Go.RowKit Go.Proofs.Ytoghhpkmficnmaa.GfMath Go.Proofs.Ytoghhpkmficnmaa.GfRef Go.Proofs.Ytoghhpkmficnmaa.Base Go.Proofs.Ytoghhpkmficnmaa.Bytes Go.Proofs.Ytoghhpkmficnmaa.Grid Go.Proofs.YtoghhpkmficnmaaW.PrintWords Go.Proofs.YtoghhpkmficnmaaW.PrintLast Go.Proofs.YtoghhpkmficnmaaW.PrintMore
set_option linter.unusedVariables false
set_option linter.unusedSimpArgs false
def swapI (a b : Nat) (f : Nat → Nat → Int) (i j : Nat) : Int := if i = a then f b j else if i = b then f a j else f i j
theorem swapI_by {a b : Nat} {f : Nat → Nat → Int} (hf : ByF f) : ByF (swapI a b f) := fun i j => by unfold swapI; split; exact hf _ _; split <;> exact hf _ _
def swapL (a b : Nat) (rs : List (Nat × Nat)) : List (Nat × Nat) := (rs.set a (rs.getD b (0, 0))).set b (rs.getD a (0, 0))
theorem swapL_len (a b : Nat) (rs : List (Nat × Nat)) : (swapL a b rs).length = rs.length := by simp [swapL]
theorem swapL_get {a b : Nat} {rs : List (Nat × Nat)} (ha : a < rs.length) (hb : b < rs.length) (i : Nat) : (swapL a b rs)[i]? = if i = a then rs[b]? else if i = b then rs[a]? else rs[i]? := by
  have ga : rs[a]? = some (rs.getD a (0, 0)) := by rw [List.getD_eq_getElem?_getD, List.getElem?_eq_getElem ha]; rfl
  have gb : rs[b]? = some (rs.getD b (0, 0)) := by rw [List.getD_eq_getElem?_getD, List.getElem?_eq_getElem hb]; rfl
  unfold swapL
  by_cases e2 : i = b
  · subst e2
    rw [List.getElem?_set_self (by simpa using hb)]
    by_cases e1 : i = a
    · subst e1; rw [if_pos rfl, ga]
    · rw [if_neg e1, if_pos rfl, ga]
  · rw [List.getElem?_set_ne (Ne.symm e2)]
    by_cases e1 : i = a
    · subst e1
      rw [List.getElem?_set_self ha, if_pos rfl, gb]
    · rw [List.getElem?_set_ne (Ne.symm e1), if_neg e1, if_neg e2]
theorem nodup_inj {rs : List (Nat × Nat)} (h : (rs.map (·.1)).Nodup) {i j : Nat} {p q : Nat × Nat} (hi : rs[i]? = some p) (hj : rs[j]? = some q) (he : p.1 = q.1) : i = j := by
  obtain ⟨li, ei⟩ := List.getElem?_eq_some_iff.1 hi
  obtain ⟨lj, ej⟩ := List.getElem?_eq_some_iff.1 hj
  exact (List.getElem_inj (i := i) (j := j) (h₀ := by simpa using li) (h₁ := by simpa using lj) h).1 (by simp [ei, ej, he])
theorem inj_nodup {rs : List (Nat × Nat)} (h : ∀ (i j : Nat) (p q : Nat × Nat), rs[i]? = some p → rs[j]? = some q → p.1 = q.1 → i = j) : (rs.map (·.1)).Nodup := by
  refine List.pairwise_iff_getElem.2 fun i j hi hj hlt he => ?_
  have hi' : i < rs.length := by simpa using hi
  have hj' : j < rs.length := by simpa using hj
  have := h i j _ _ (List.getElem?_eq_getElem hi') (List.getElem?_eq_getElem hj') (by simpa using he)
  omega
theorem swap_nodup {a b : Nat} {rs : List (Nat × Nat)} (ha : a < rs.length) (hb : b < rs.length) (h : (rs.map (·.1)).Nodup) : ((swapL a b rs).map (·.1)).Nodup := by
  refine inj_nodup fun i j p q hi hj he => ?_
  rw [swapL_get ha hb] at hi hj
  have key : ∀ i : Nat, (if i = a then rs[b]? else if i = b then rs[a]? else rs[i]?) = rs[if i = a then b else if i = b then a else i]? := fun i => by split; rfl; split <;> rfl
  rw [key] at hi hj
  have := nodup_inj h hi hj he
  have inv : ∀ i : Nat, (if (if i = a then b else if i = b then a else i) = a then b else if (if i = a then b else if i = b then a else i) = b then a else (if i = a then b else if i = b then a else i)) = i := fun i => by
    by_cases e1 : i = a
    · rw [if_pos e1]
      by_cases e2 : b = a
      · rw [if_pos e2, e2, e1]
      · rw [if_neg e2, if_pos rfl, e1]
    · rw [if_neg e1]
      by_cases e2 : i = b
      · rw [if_pos e2, if_pos rfl, e2]
      · rw [if_neg e2, if_neg e1, if_neg e2]
  have h1 := inv i
  rw [this, inv j] at h1
  exact h1.symm
theorem grid_swapped {B : Nat} {W : World} {g0 cap n m : Nat} {rs : List (Nat × Nat)} {f : Nat → Nat → Int} (h : Grid B W (.slice (some ⟨g0, 0, none⟩) n cap) m (rs.map some) rs f) (hrs : rs.length = n) {a b : Nat} {pa pb : Nat × Nat} (ha : rs[a]? = some pa) (hb : rs[b]? = some pb) :
    Grid B ((W.setCell ⟨g0, a, none⟩ (.slice (some ⟨pb.1, 0, none⟩) m pb.2)).setCell ⟨g0, b, none⟩ (.slice (some ⟨pa.1, 0, none⟩) m pa.2)) (.slice (some ⟨g0, 0, none⟩) n cap) m ((swapL a b rs).map some) (swapL a b rs) (swapI a b f) := by
  have la := (List.getElem?_eq_some_iff.1 ha).1
  have lb := (List.getElem?_eq_some_iff.1 hb).1
  have ga : rs.getD a (0, 0) = pa := by rw [List.getD_eq_getElem?_getD, ha]; rfl
  have gb : rs.getD b (0, 0) = pb := by rw [List.getD_eq_getElem?_getD, hb]; rfl
  have h1 := Kd.R_putn h.out (a : Int) (some pb)
  rw [Int.toNat_natCast] at h1
  have h2 := Kd.R_putn h1 (b : Int) (some pa)
  rw [Int.toNat_natCast] at h2
  obtain ⟨cells, hc⟩ := Kd.R_typed h.out g0 (by simp [Value.ownBlock])
  have hos : ((rs.map some).set a (some pb)).set b (some pa) = (swapL a b rs).map some := by
    unfold swapL
    rw [ga, gb, List.map_set, List.map_set]
  rw [hos] at h2
  refine ⟨h2, fun i p hp => ?_, swap_nodup la lb h.nd⟩
  have far : ∀ {g' : Nat} {f' : Nat → Int}, Br W g' m f' → Br ((W.setCell ⟨g0, a, none⟩ (.slice (some ⟨pb.1, 0, none⟩) m pb.2)).setCell ⟨g0, b, none⟩ (.slice (some ⟨pa.1, 0, none⟩) m pa.2)) g' m f' := fun hb => hb.keep ((Below.heap_setCell _ ⟨g0, b, none⟩ _ _ (hb.ne hc (by decide))).trans (Below.heap_setCell W ⟨g0, a, none⟩ _ _ (hb.ne hc (by decide))))
  rw [swapL_get la lb] at hp
  unfold swapI
  by_cases e1 : i = a
  · rw [if_pos e1] at hp
    obtain ⟨r1, r2⟩ := h.row b p hp
    exact ⟨(far r1).congr fun j _ => by rw [if_pos e1], r2⟩
  · rw [if_neg e1] at hp
    by_cases e2 : i = b
    · rw [if_pos e2] at hp
      obtain ⟨r1, r2⟩ := h.row a p hp
      exact ⟨(far r1).congr fun j _ => by rw [if_neg e1, if_pos e2], r2⟩
    · rw [if_neg e2] at hp
      obtain ⟨r1, r2⟩ := h.row i p hp
      exact ⟨(far r1).congr fun j _ => by rw [if_neg e1, if_neg e2], r2⟩
def rg38_0_T : Bool × List (List Nat × List Nat) := (true, [([], []), ([], []), ([], []), ([], []), ([], []), ([], []), ([4, 5], [4, 5]), ([6], [6]), ([], []), ([], []), ([8, 9], [8, 9]), ([10], [10]), ([0, 1, 0, 1, 4, 5, 6, 7, 11], [0, 1]), ([12, 7, 0, 1, 4, 5, 6, 7, 11], [7, 12]), ([2, 3, 0, 1, 2, 3, 4, 5, 6, 7, 8, 9, 10, 11, 12, 13], [2, 3]), ([14, 11, 13, 0, 1, 2, 3, 4, 5, 6, 7, 8, 9, 10, 11, 12, 13], [11, 14])])
def rg38_0_B : List Nat := [0, 0, 0, 0, 0, 0, 48, 112, 0, 0, 768, 1792, 4083, 8179, 16383, 32767]
theorem rg38_0_tab : rtab .any (opsOf Try.f38 0) = rg38_0_T := by kernel_rfl
theorem rg38_0_bits : waitsOk rg38_0_T.2 rg38_0_B = true := by kernel_rfl
set_option maxHeartbeats 8000000 in
set_option maxRecDepth 100000 in
theorem swap_calls (w0 : World) (g0 cap n m : Nat) (rs : List (Nat × Nat)) (f : Nat → Nat → Int) (a b : Nat) (W : World) (hG : Grid w0.heap.size W (.slice (some ⟨g0, 0, none⟩) n cap) m (rs.map some) rs f) (hrs : rs.length = n) (ha : a < n) (hb : b < n) (hn : n ≤ 255) (hB : Below w0.heap.size w0 W) :
    Calls Try.prog 38 #[.slice (some ⟨g0, 0, none⟩) n cap, .int .i64 a, .int .i64 b] W fun e W' => e = .returned (.tuple #[]) ∧ Grid w0.heap.size W' (.slice (some ⟨g0, 0, none⟩) n cap) m ((swapL a b rs).map some) (swapL a b rs) (swapI a b f) ∧ KeepBut W W' g0 none ∧ Below w0.heap.size w0 W' := by
  obtain ⟨ra, ca, hra, hoa, _⟩ := gcell hG hrs ha
  obtain ⟨rb, cb, hrb, hob, _⟩ := gcell hG hrs hb
  have HG := Aside0.mk (hG.below (below_drew (Below.refl _ W)))
  have hfa := (hG.outer ha).2
  have hfb := (hG.outer hb).2
  have HRA := Aside0.mk hra
  have HRB := Aside0.mk hrb
  have HRS := Aside0.mk hrs
  have HGE := Aside0.mk (Kd.R_base hG.out g0 (by simp [Value.ownBlock]))
  have HB := Aside0.mk (below_drew1 hB)
  clear hB
  have c1 : decide ((a : Int) < (n : Int)) = true := decide_eq_true (by omega)
  have c2 : decide (a < n) = true := decide_eq_true ha
  have c3 : decide ((b : Int) < (n : Int)) = true := decide_eq_true (by omega)
  have c4 : decide (b < n) = true := decide_eq_true hb
  have hoad : W.drew.cell? ⟨g0, a, none⟩ = some (.slice (some ⟨ra, 0, none⟩) m ca) := hoa
  have hobd : W.drew.cell? ⟨g0, b, none⟩ = some (.slice (some ⟨rb, 0, none⟩) m cb) := hob
  have hfad : W.drew.frozen? ⟨g0, a, none⟩ = false := hfa
  have hfbd : W.drew.frozen? ⟨g0, b, none⟩ = false := hfb
  clear hG hra hrb hrs hoa hob hfa hfb
  go_enter Try.func38, Try.ntmps38
  go_wp2
  refine start_ (n := 16) (S := fun w' => w'.cell? ⟨g0, a, none⟩ = some (.slice (some ⟨ra, 0, none⟩) m ca) ∧ w'.cell? ⟨g0, b, none⟩ = some (.slice (some ⟨rb, 0, none⟩) m cb)) (ds := [13, 15]) #[false, false, false, false, false, false, false, false, false, false, false, false, false, false, false, false] (by kernel_rfl) rfl rfl ⟨hoad, hobd⟩ (fun hHeld => ?_)
  refine with_tabW rg38_0_tab rg38_0_bits (fun HT_ HW_ => ?_)
  obtain ⟨W1, hW1⟩ : ∃ W1, W1 = W.drew := ⟨_, rfl⟩
  rw [← hW1] at hHeld HG HB hoad hobd hfad hfbd ⊢
  have HK := Aside0.mk (show KeepBut W W1 g0 none from by rw [hW1]; exact KeepBut.of_below (below_drew (Below.refl _ W)) g0 none)
  clear hW1
  refine pure_ (i := 0) (N := some 6) (v := ?_) (a' := ?_) #[true, false, false, false, false, false, false, false, false, false, false, false, false, false, false, false] rfl rfl (any_of HT_.out (by kernel_rfl)) (fun _ _ _ h => h) (Or.inl ⟨by rfl, ?_⟩) ?_ ?_
  rotate_left
  · intro w'
    go_simp
    with_reducible rfl
  rotate_left
  · simp only [Act.put, List.setIfInBounds_toArray, List.set_cons_zero, List.set_cons_succ, i64_w, i32_w]
    rfl
  refine pure_ (i := 1) (N := some 7) (v := ?_) (a' := ?_) #[true, true, false, false, false, false, false, false, false, false, false, false, false, false, false, false] rfl rfl (any_of HT_.out (by kernel_rfl)) (fun _ _ _ h => h) (Or.inl ⟨by rfl, ?_⟩) ?_ ?_
  rotate_left
  · intro w'
    go_simp
    with_reducible rfl
  rotate_left
  · simp only [Act.put, List.setIfInBounds_toArray, List.set_cons_zero, List.set_cons_succ, i64_w, i32_w]
    rfl
  refine pure_ (i := 2) (N := some 8) (v := ?_) (a' := ?_) #[true, true, true, false, false, false, false, false, false, false, false, false, false, false, false, false] rfl rfl (any_of HT_.out (by kernel_rfl)) (fun _ _ _ h => h) (Or.inl ⟨by rfl, ?_⟩) ?_ ?_
  rotate_left
  · intro w'
    go_simp
    with_reducible rfl
  rotate_left
  · simp only [Act.put, List.setIfInBounds_toArray, List.set_cons_zero, List.set_cons_succ, i64_w, i32_w]
    rfl
  refine pure_ (i := 3) (N := some 9) (v := ?_) (a' := ?_) #[true, true, true, true, false, false, false, false, false, false, false, false, false, false, false, false] rfl rfl (any_of HT_.out (by kernel_rfl)) (fun _ _ _ h => h) (Or.inl ⟨by rfl, ?_⟩) ?_ ?_
  rotate_left
  · intro w'
    go_simp
    with_reducible rfl
  rotate_left
  · simp only [Act.put, List.setIfInBounds_toArray, List.set_cons_zero, List.set_cons_succ, i64_w, i32_w]
    rfl
  refine pure_ (i := 4) (N := some 10) (v := ?_) (a' := ?_) #[true, true, true, true, true, false, false, false, false, false, false, false, false, false, false, false] rfl rfl (any_of HT_.out (by kernel_rfl)) (fun _ _ _ h => h) (Or.inl ⟨by rfl, ?_⟩) ?_ ?_
  rotate_left
  · intro w'
    go_simp
    with_reducible rfl
  rotate_left
  · simp only [Act.put, List.setIfInBounds_toArray, List.set_cons_zero, List.set_cons_succ, i64_w, i32_w]
    rfl
  refine pure_ (i := 5) (N := some 11) (v := ?_) (a' := ?_) #[true, true, true, true, true, true, false, false, false, false, false, false, false, false, false, false] rfl rfl (any_of HT_.out (by kernel_rfl)) (fun _ _ _ h => h) (Or.inl ⟨by rfl, ?_⟩) ?_ ?_
  rotate_left
  · intro w'
    go_simp
    with_reducible rfl
  rotate_left
  · simp only [Act.put, List.setIfInBounds_toArray, List.set_cons_zero, List.set_cons_succ, i64_w, i32_w]
    rfl
  refine pure_ (i := 6) (N := some 12) (v := ?_) (a' := ?_) #[true, true, true, true, true, true, true, false, false, false, false, false, false, false, false, false] rfl rfl (any_of HT_.out (by kernel_rfl)) (fun _ _ _ h => h) (Or.inl ⟨by rfl, ?_⟩) ?_ ?_
  rotate_left
  · intro w'
    go_simp
    with_reducible rfl
  rotate_left
  · simp only [Act.put, List.setIfInBounds_toArray, List.set_cons_zero, List.set_cons_succ, i64_w, i32_w]
    rfl
  refine take_ (i := 7) (N := some 13) (v := ?_) (a' := ?_) #[true, true, true, true, true, true, true, true, false, false, false, false, false, false, false, false] rfl rfl (take_ofW HT_.out HW_.out (by kernel_rfl)) (fun _ _ _ h => h) (Or.inl ⟨by rfl, ?_⟩) hHeld ?_ ?_
  rotate_left
  · rintro w' ⟨s0, s1⟩
    go_simp
    with_reducible rfl
  rotate_left
  · simp only [Act.put, List.setIfInBounds_toArray, List.set_cons_zero, List.set_cons_succ, i64_w, i32_w]
    rfl
  refine pure_ (i := 8) (N := some 14) (v := ?_) (a' := ?_) #[true, true, true, true, true, true, true, true, true, false, false, false, false, false, false, false] rfl rfl (any_of HT_.out (by kernel_rfl)) (fun _ _ _ h => h) (Or.inl ⟨by rfl, ?_⟩) ?_ ?_
  rotate_left
  · intro w'
    go_simp
    with_reducible rfl
  rotate_left
  · simp only [Act.put, List.setIfInBounds_toArray, List.set_cons_zero, List.set_cons_succ, i64_w, i32_w]
    rfl
  refine pure_ (i := 9) (N := some 15) (v := ?_) (a' := ?_) #[true, true, true, true, true, true, true, true, true, true, false, false, false, false, false, false] rfl rfl (any_of HT_.out (by kernel_rfl)) (fun _ _ _ h => h) (Or.inl ⟨by rfl, ?_⟩) ?_ ?_
  rotate_left
  · intro w'
    go_simp
    with_reducible rfl
  rotate_left
  · simp only [Act.put, List.setIfInBounds_toArray, List.set_cons_zero, List.set_cons_succ, i64_w, i32_w]
    rfl
  refine pure_ (i := 10) (N := some 16) (v := ?_) (a' := ?_) #[true, true, true, true, true, true, true, true, true, true, true, false, false, false, false, false] rfl rfl (any_of HT_.out (by kernel_rfl)) (fun _ _ _ h => h) (Or.inl ⟨by rfl, ?_⟩) ?_ ?_
  rotate_left
  · intro w'
    go_simp
    with_reducible rfl
  rotate_left
  · simp only [Act.put, List.setIfInBounds_toArray, List.set_cons_zero, List.set_cons_succ, i64_w, i32_w]
    rfl
  refine take_ (i := 11) (N := some 17) (v := ?_) (a' := ?_) #[true, true, true, true, true, true, true, true, true, true, true, true, false, false, false, false] rfl rfl (take_ofW HT_.out HW_.out (by kernel_rfl)) (fun _ _ _ h => h) (Or.inl ⟨by rfl, ?_⟩) hHeld ?_ ?_
  rotate_left
  · rintro w' ⟨s0, s1⟩
    go_simp
    with_reducible rfl
  rotate_left
  · simp only [Act.put, List.setIfInBounds_toArray, List.set_cons_zero, List.set_cons_succ, i64_w, i32_w]
    rfl
  refine pure_ (i := 12) (N := some 18) (v := ?_) (a' := ?_) #[true, true, true, true, true, true, true, true, true, true, true, true, true, false, false, false] rfl rfl (any_of HT_.out (by kernel_rfl)) (fun _ _ _ h => h) (Or.inl ⟨by rfl, ?_⟩) ?_ ?_
  rotate_left
  · intro w'
    go_simp
    with_reducible rfl
  rotate_left
  · simp only [Act.put, List.setIfInBounds_toArray, List.set_cons_zero, List.set_cons_succ, i64_w, i32_w]
    rfl
  refine last_ (i := 13) (N := none) #[true, true, true, true, true, true, true, true, true, true, true, true, true, true, false, false] rfl rfl (one_of HT_.out (by kernel_rfl)) (by decide) (fun K hK => ?_)
  (refine skip_ (w1 := ?_) (by rfl) rfl ?_ ?_; rotate_left; · (go_simp; rfl))
  refine hK.out _ _ ?_
  clear hK K
  try simp only [Act.put, List.setIfInBounds_toArray, List.set_cons_zero, List.set_cons_succ, i64_w, i32_w]
  refine pure_ (i := 14) (N := some 19) (v := ?_) (a' := ?_) #[true, true, true, true, true, true, true, true, true, true, true, true, true, true, true, false] rfl rfl (any_of HT_.out (by kernel_rfl)) (fun _ _ _ h => h) (Or.inl ⟨by rfl, ?_⟩) ?_ ?_
  rotate_left
  · intro w'
    go_simp
    with_reducible rfl
  rotate_left
  · simp only [Act.put, List.setIfInBounds_toArray, List.set_cons_zero, List.set_cons_succ, i64_w, i32_w]
    rfl
  have hsb : (W1.setCell ⟨g0, a, none⟩ (.slice (some ⟨rb, 0, none⟩) m cb)).frozen? ⟨g0, b, none⟩ = false := by simpa using hfbd
  obtain ⟨vb, hvb⟩ : ∃ v, (W1.setCell ⟨g0, a, none⟩ (.slice (some ⟨rb, 0, none⟩) m cb)).cell? ⟨g0, b, none⟩ = some v := cell?_setCell_some (p := ⟨g0, a, none⟩) (x := .slice (some ⟨rb, 0, none⟩) m cb) (q := ⟨g0, b, none⟩) hobd
  refine last_ (i := 15) (N := none) #[true, true, true, true, true, true, true, true, true, true, true, true, true, true, true, true] rfl rfl (one_of HT_.out (by kernel_rfl)) (by decide) (fun K hK => ?_)
  (refine skip_ (w1 := ?_) (by rfl) rfl ?_ ?_; rotate_left; · (go_simp; rfl))
  refine hK.out _ _ ?_
  clear hK K
  try simp only [Act.put, List.setIfInBounds_toArray, List.set_cons_zero, List.set_cons_succ, i64_w, i32_w]
  refine done_ (done_of HT_.out (by kernel_rfl)) ?_
  go_wp2
  go_end0
  refine ⟨rfl, grid_swapped HG.out HRS.out HRA.out HRB.out, ?_⟩
  exact ⟨KeepBut.set_ (KeepBut.set_ HK.out a _) b _, below_set (below_set HB.out HGE.out) HGE.out⟩
end Go.Proofs.Ytoghhpkmficnmaa.Al

/- Matrices over the field, as functions of a row and a column: products, what the moves of rows do, and what the elimination tells. Plain mathematics. -/
namespace Go.Proofs.Ytoghhpkmficnmaa.GfMath
abbrev Mx := Nat → Nat → Nat
def By2 (A : Mx) : Prop := ∀ i j, A i j < 256
/-- The sum of the first n. -/
def xs : Nat → (Nat → Nat) → Nat
  | 0, _ => 0
  | n + 1, f => xs n f ^^^ f n
theorem xs_lt {n : Nat} {f : Nat → Nat} (h : ∀ i, i < n → f i < 256) : xs n f < 256 := by
  induction n with
  | zero => show 0 < 256; omega
  | succ n ih => exact xor_lt (ih fun i hi => h i (by omega)) (h n (by omega))
theorem xs_congr {n : Nat} {f g : Nat → Nat} (h : ∀ i, i < n → f i = g i) : xs n f = xs n g := by
  induction n with
  | zero => rfl
  | succ n ih => rw [xs, xs, ih fun i hi => h i (by omega), h n (by omega)]
theorem xs_xor (n : Nat) (f g : Nat → Nat) : xs n (fun i => f i ^^^ g i) = xs n f ^^^ xs n g := by
  induction n with
  | zero => exact (Nat.xor_self 0).symm
  | succ n ih => rw [xs, xs, xs, ih, xor4]
theorem xs_zero (n : Nat) : xs n (fun _ => 0) = 0 := by
  induction n with
  | zero => rfl
  | succ n ih => rw [xs, ih]; rfl
theorem mul_xs {n a : Nat} {f : Nat → Nat} (ha : a < 256) (hf : ∀ i, i < n → f i < 256) : mulN a (xs n f) = xs n (fun i => mulN a (f i)) := by
  induction n with
  | zero => exact mul_zero a
  | succ n ih => rw [xs, xs, mul_xor ha (xs_lt fun i hi => hf i (by omega)) (hf n (by omega)), ih fun i hi => hf i (by omega)]
theorem xs_mul {n a : Nat} {f : Nat → Nat} (ha : a < 256) (hf : ∀ i, i < n → f i < 256) : mulN (xs n f) a = xs n (fun i => mulN (f i) a) := by
  rw [mul_comm, mul_xs ha hf]
  exact xs_congr fun i _ => mul_comm _ _
theorem xs_comm (n m : Nat) (f : Mx) : xs n (fun i => xs m (fun j => f i j)) = xs m (fun j => xs n (fun i => f i j)) := by
  induction n with
  | zero => exact (xs_zero m).symm
  | succ n ih => simp only [xs]; rw [xs_xor, ih]
theorem xs_none {n : Nat} {f : Nat → Nat} (h : ∀ i, i < n → f i = 0) : xs n f = 0 := (xs_congr h).trans (xs_zero n)
theorem xs_one {n c : Nat} {f : Nat → Nat} (hc : c < n) (h : ∀ i, i < n → i ≠ c → f i = 0) : xs n f = f c := by
  induction n with
  | zero => omega
  | succ n ih =>
    by_cases e : c = n
    · subst e
      rw [xs, xs_none fun i hi => h i (by omega) (by omega)]
      exact Nat.zero_xor _
    · rw [xs, ih (by omega) fun i hi hn => h i (by omega) hn, h n (by omega) (by omega)]
      exact Nat.xor_zero _
def mm (n : Nat) (A B : Mx) : Mx := fun i j => xs n (fun k => mulN (A i k) (B k j))
def Ix : Mx := fun i j => if i = j then 1 else 0
theorem Ix_by : By2 Ix := fun i j => by unfold Ix; split <;> omega
theorem mm_by (n : Nat) (A B : Mx) : By2 (mm n A B) := fun _ _ => xs_lt fun _ _ => mul_lt _ _
theorem mm_congr {n : Nat} {A A' B B' : Mx} {i j : Nat} (ha : ∀ k, k < n → A i k = A' i k) (hb : ∀ k, k < n → B k j = B' k j) : mm n A B i j = mm n A' B' i j :=
  xs_congr fun k hk => by rw [ha k hk, hb k hk]
theorem mm_assoc {n m : Nat} {A B C : Mx} (ha : By2 A) (hb : By2 B) (hc : By2 C) (i j : Nat) : mm n (mm m A B) C i j = mm m A (mm n B C) i j := by
  have h1 : mm n (mm m A B) C i j = xs n (fun k => xs m (fun l => mulN (mulN (A i l) (B l k)) (C k j))) := xs_congr fun k _ => xs_mul (hc k j) fun l _ => mul_lt _ _
  have h2 : mm m A (mm n B C) i j = xs m (fun l => xs n (fun k => mulN (A i l) (mulN (B l k) (C k j)))) := xs_congr fun l _ => mul_xs (ha i l) fun k _ => mul_lt _ _
  rw [h1, h2, xs_comm]
  exact xs_congr fun l _ => xs_congr fun k _ => mul_assoc (ha i l) (hb l k) (hc k j)
theorem one_mul {a : Nat} (ha : a < 256) : mulN 1 a = a := by rw [mul_comm]; exact mul_one ha
theorem mm_one_left {n : Nat} {A : Mx} (ha : By2 A) {i j : Nat} (hi : i < n) : mm n Ix A i j = A i j := by
  have : mm n Ix A i j = (fun k => mulN (Ix i k) (A k j)) i := xs_one hi fun k _ hk => by unfold Ix; rw [if_neg (Ne.symm hk)]; exact zero_mul _
  rw [this]
  simp only [Ix, if_true]
  exact one_mul (ha i j)
theorem mm_one_right {n : Nat} {A : Mx} (ha : By2 A) {i j : Nat} (hj : j < n) : mm n A Ix i j = A i j := by
  have : mm n A Ix i j = (fun k => mulN (A i k) (Ix k j)) j := xs_one hj fun k _ hk => by unfold Ix; rw [if_neg hk]; exact mul_zero _
  rw [this]
  simp only [Ix, if_true]
  exact mul_one (ha i j)
/-- A move of rows. -/
structure RowOp (n : Nat) (op : Mx → Mx) : Prop where
  by_ : ∀ A, By2 A → By2 (op A)
  lin : ∀ A B i j, By2 A → By2 B → i < n → mm n (op A) B i j = op (mm n A B) i j
  cong : ∀ A B j, (∀ i, i < n → A i j = B i j) → ∀ i, i < n → op A i j = op B i j
def swapR (a b : Nat) (A : Mx) : Mx := fun i => if i = a then A b else if i = b then A a else A i
def scaleR (c b : Nat) (A : Mx) : Mx := fun i j => if i = c then mulN b (A c j) else A i j
def elimR (c : Nat) (x : Nat → Nat) (A : Mx) : Mx := fun i j => if i = c then A i j else A i j ^^^ mulN (x i) (A c j)
theorem swap_op {n a b : Nat} (ha : a < n) (hb : b < n) : RowOp n (swapR a b) where
  by_ A h i j := by unfold swapR; split; exact h _ _; split <;> exact h _ _
  lin A B i j _ _ _ := by
    by_cases h1 : i = a
    · simp only [swapR, mm, if_pos h1]
    · by_cases h2 : i = b
      · simp only [swapR, mm, if_neg h1, if_pos h2]
      · simp only [swapR, mm, if_neg h1, if_neg h2]
  cong A B j h i hi := by unfold swapR; split; exact h _ hb; split; exact h _ ha; exact h _ hi
theorem scale_op {n c b : Nat} (hc : c < n) (hb : b < 256) : RowOp n (scaleR c b) where
  by_ A h i j := by unfold scaleR; split; exact mul_lt _ _; exact h _ _
  lin A B i j hA hB _ := by
    by_cases h1 : i = c
    · subst h1
      simp only [scaleR, mm, if_true]
      rw [mul_xs hb fun k _ => mul_lt _ _]
      exact xs_congr fun k _ => mul_assoc hb (hA _ _) (hB _ _)
    · simp only [scaleR, mm, if_neg h1]
  cong A B j h i hi := by unfold scaleR; split; rw [h c hc]; exact h _ hi
theorem elim_op {n c : Nat} {x : Nat → Nat} (hc : c < n) (hx : ∀ i, x i < 256) : RowOp n (elimR c x) where
  by_ A h i j := by unfold elimR; split; exact h _ _; exact xor_lt (h _ _) (mul_lt _ _)
  lin A B i j hA hB _ := by
    by_cases h1 : i = c
    · simp only [elimR, mm, if_pos h1]
    · simp only [elimR, mm, if_neg h1]
      rw [mul_xs (hx i) fun k _ => mul_lt _ _, ← xs_xor]
      exact xs_congr fun k _ => by rw [mul_xor_left (hA _ _) (mul_lt _ _) (hB _ _), mul_assoc (hx i) (hA _ _) (hB _ _)]
  cong A B j h i hi := by unfold elimR; split; exact h _ hi; rw [h i hi, h c hc]
/-- What stands behind moves: R takes M to L, and R has an inverse. -/
structure GI (n : Nat) (M L R : Mx) : Prop where
  bL : By2 L
  bR : By2 R
  a : ∀ i j, i < n → j < n → mm n R M i j = L i j
  s : ∃ S, By2 S ∧ (∀ i j, i < n → j < n → mm n S R i j = Ix i j) ∧ (∀ i j, i < n → j < n → mm n R S i j = Ix i j)
theorem GI.step {n : Nat} {M L R : Mx} {op op' : Mx → Mx} (h : GI n M L R) (hM : By2 M) (ho : RowOp n op) (ho' : RowOp n op') (e1 : ∀ A, By2 A → ∀ i j, i < n → op' (op A) i j = A i j) (e2 : ∀ A, By2 A → ∀ i j, i < n → op (op' A) i j = A i j) : GI n M (op L) (op R) := by
  obtain ⟨S, bS, s1, s2⟩ := h.s
  have bI := ho'.by_ Ix Ix_by
  have bO := ho.by_ R h.bR
  refine ⟨ho.by_ L h.bL, bO, fun i j hi hj => ?_, mm n S (op' Ix), mm_by _ _ _, fun i j hi hj => ?_, fun i j hi hj => ?_⟩
  · rw [ho.lin R M i j h.bR hM hi]
    exact ho.cong _ _ j (fun i' hi' => h.a i' j hi' hj) i hi
  · rw [mm_assoc bS bI bO, ← s1 i j hi hj]
    refine mm_congr (fun _ _ => rfl) fun k hk => ?_
    rw [ho'.lin Ix (op R) k j Ix_by bO hk]
    rw [ho'.cong _ (op R) j (fun i' hi' => mm_one_left bO hi') k hk]
    exact e1 R h.bR k j hk
  · rw [ho.lin R _ i j h.bR (mm_by _ _ _) hi]
    have : ∀ i', i' < n → mm n R (mm n S (op' Ix)) i' j = op' Ix i' j := fun i' hi' => by
      rw [← mm_assoc h.bR bS bI, ← mm_one_left bI hi' (j := j)]
      exact mm_congr (fun k hk => s2 i' k hi' hk) fun _ _ => rfl
    rw [ho.cong _ (op' Ix) j this i hi]
    exact e2 Ix Ix_by i j hi
theorem swap_swap {a b : Nat} (A : Mx) (i j : Nat) : swapR a b (swapR a b A) i j = A i j := by
  unfold swapR
  by_cases h1 : i = a
  · subst h1
    by_cases h2 : b = i
    · subst h2; simp
    · simp [h2]
  · by_cases h2 : i = b
    · subst h2; simp [h1]
    · simp [h1, h2]
theorem xor_self_right (a b : Nat) : a ^^^ b ^^^ b = a := by rw [Nat.xor_assoc, Nat.xor_self, Nat.xor_zero]
theorem elim_elim {c : Nat} {x : Nat → Nat} (A : Mx) (i j : Nat) : elimR c x (elimR c x A) i j = A i j := by
  unfold elimR
  by_cases h : i = c
  · simp [h]
  · simp only [if_neg h, if_true]
    exact xor_self_right _ _
def inv1 (a : Nat) : Nat := E (L 1 + 255 - L a)
theorem inv1_lt (a : Nat) : inv1 a < 256 := (E_lt _).2
theorem mul_inv1 {a : Nat} (ha : a < 256) (h0 : a ≠ 0) : mulN a (inv1 a) = 1 := by
  obtain ⟨h1, h2⟩ := E_L a ha h0
  have h3 : mulN a (inv1 a) = mulN (E (L a)) (inv1 a) := by rw [h2]
  rw [h3, inv1, mul_EE, L_one, show L a + (0 + 255 - L a) = 255 by omega, E_255]
theorem inv1_mul {a : Nat} (ha : a < 256) (h0 : a ≠ 0) : mulN (inv1 a) a = 1 := by rw [mul_comm]; exact mul_inv1 ha h0
theorem scale_scale {c a b : Nat} (ha : a < 256) (hb : b < 256) (h : mulN a b = 1) (A : Mx) (hA : By2 A) (i j : Nat) : scaleR c a (scaleR c b A) i j = A i j := by
  unfold scaleR
  by_cases e : i = c
  · subst e
    simp only [if_true]
    rw [← mul_assoc ha hb (hA _ _), h, one_mul (hA _ _)]
  · simp only [if_neg e]
/-- The first place from 'at' on (d of them) at which column c is not 0; behind the last one where there is none. -/
def piv (A : Mx) (c : Nat) : Nat → Nat → Nat
  | 0, p => p
  | d + 1, p => if A p c = 0 then piv A c d (p + 1) else p
theorem piv_spec (A : Mx) (c : Nat) : ∀ d p, p ≤ piv A c d p ∧ piv A c d p ≤ p + d ∧ (∀ i, p ≤ i → i < piv A c d p → A i c = 0) ∧ (piv A c d p < p + d → A (piv A c d p) c ≠ 0)
  | 0, p => ⟨Nat.le_refl _, Nat.le_refl _, fun i h1 h2 => by simp only [piv] at h2; omega, fun h => by simp only [piv] at h; omega⟩
  | d + 1, p => by
    simp only [piv]
    split
    · rename_i h
      obtain ⟨h1, h2, h3, h4⟩ := piv_spec A c d (p + 1)
      refine ⟨by omega, by omega, fun i hi hlt => ?_, fun hlt => h4 (by omega)⟩
      by_cases e : i = p
      · rw [e]; exact h
      · exact h3 i (by omega) hlt
    · rename_i h
      exact ⟨Nat.le_refl _, by omega, fun i h1 h2 => by omega, fun _ => h⟩
theorem piv_uniq {A : Mx} {c d p r : Nat} (h1 : p ≤ r) (h2 : r ≤ p + d) (h3 : ∀ i, p ≤ i → i < r → A i c = 0) (h4 : r < p + d → A r c ≠ 0) : r = piv A c d p := by
  obtain ⟨k1, k2, k3, k4⟩ := piv_spec A c d p
  rcases Nat.lt_trichotomy r (piv A c d p) with h | h | h
  · exact absurd (k3 r h1 h) (h4 (by omega))
  · exact h
  · exact absurd (h3 _ k1 h) (k4 (by omega))
def stepL (c p : Nat) (A : Mx) : Mx := scaleR c (inv1 (swapR c p A c c)) (swapR c p A)
def stepR (c p : Nat) (A B : Mx) : Mx := scaleR c (inv1 (swapR c p A c c)) (swapR c p B)
def gstep (n c : Nat) (q : Mx × Mx) : Option (Mx × Mx) :=
  if piv q.1 c (n - c) c < n then
    some (elimR c (fun i => stepL c (piv q.1 c (n - c) c) q.1 i c) (stepL c (piv q.1 c (n - c) c) q.1), elimR c (fun i => stepL c (piv q.1 c (n - c) c) q.1 i c) (stepR c (piv q.1 c (n - c) c) q.1 q.2))
  else none
def gj (n : Nat) (M : Mx) : Nat → Option (Mx × Mx)
  | 0 => some (M, Ix)
  | c + 1 => (gj n M c).bind (gstep n c)
structure GJ (n c : Nat) (M : Mx) (q : Mx × Mx) : Prop where
  gi : GI n M q.1 q.2
  u : ∀ i j, i < n → j < c → q.1 i j = Ix i j
theorem GJ.start {n : Nat} {M : Mx} (hM : By2 M) : GJ n 0 M (M, Ix) :=
  ⟨⟨hM, Ix_by, fun i j hi _ => mm_one_left hM hi, Ix, Ix_by, fun i j hi _ => mm_one_left Ix_by hi, fun i j hi _ => mm_one_left Ix_by hi⟩, fun i j _ hj => absurd hj (by omega)⟩
theorem GJ.next {n c : Nat} {M : Mx} {q q' : Mx × Mx} (h : GJ n c M q) (hM : By2 M) (hc : c < n) (hs : gstep n c q = some q') : GJ n (c + 1) M q' := by
  unfold gstep at hs
  split at hs
  case isFalse => cases hs
  rename_i hp
  obtain ⟨p1, p2, p3, p4⟩ := piv_spec q.1 c (n - c) c
  generalize piv q.1 c (n - c) c = p at hs hp p1 p2 p3 p4
  obtain ⟨A, B⟩ := q
  simp only at *
  obtain rfl := Option.some.inj hs
  have hA := h.gi.bL
  have g1 := h.gi.step hM (swap_op hc hp) (swap_op hc hp) (fun A _ i j _ => swap_swap A i j) (fun A _ i j _ => swap_swap A i j)
  have e0 : swapR c p A c c = A p c := by simp [swapR]
  have hv0 : A p c ≠ 0 := p4 (by omega)
  have hvb : A p c < 256 := hA p c
  have i1 := mul_inv1 hvb hv0
  have i2 := inv1_mul hvb hv0
  have ib := inv1_lt (A p c)
  have g2 := g1.step hM (scale_op hc ib) (scale_op hc hvb) (fun A hA i j _ => scale_scale hvb ib i1 A hA i j) (fun A hA i j _ => scale_scale ib hvb i2 A hA i j)
  have g3 := g2.step hM (elim_op (x := fun i => stepL c p A i c) hc (fun i => by unfold stepL; rw [e0]; exact g2.bL i c)) (elim_op (x := fun i => stepL c p A i c) hc (fun i => by unfold stepL; rw [e0]; exact g2.bL i c)) (fun A _ i j _ => elim_elim A i j) (fun A _ i j _ => elim_elim A i j)
  have g3' := g3
  refine ⟨?_, fun i j hi hj => ?_⟩
  · unfold stepR; unfold stepL at g3' ⊢; rw [e0] at g3' ⊢; exact g3'
  · have s2 : ∀ i', i' < n → ∀ j', j' < c → stepL c p A i' j' = Ix i' j' := fun i' hi' j' hj' => by
      have u1 := h.u c j' hc hj'
      have u2 := h.u p j' hp hj'
      have u3 := h.u i' j' hi' hj'
      simp only at u1 u2 u3
      have z1 : Ix c j' = 0 := by unfold Ix; rw [if_neg (by omega)]
      have z2 : Ix p j' = 0 := by unfold Ix; rw [if_neg (by omega)]
      unfold stepL scaleR swapR
      simp only [if_true]
      by_cases q1 : i' = c
      · rw [if_pos q1, u2, z2, q1, z1]; exact mul_zero _
      · rw [if_neg q1, if_neg q1]
        by_cases q2 : i' = p
        · rw [if_pos q2, u1, z1, q2, z2]
        · rw [if_neg q2]; exact u3
    have s3 : stepL c p A c c = 1 := by unfold stepL; rw [e0]; simp [scaleR, swapR]; exact i2
    have bS : ∀ i' j', stepL c p A i' j' < 256 := fun i' j' => by unfold stepL; rw [e0]; exact g2.bL i' j'
    show elimR c (fun i => stepL c p A i c) (stepL c p A) i j = Ix i j
    unfold elimR
    by_cases e : j = c
    · subst e
      by_cases q1 : i = j
      · rw [if_pos q1, q1, s3]; simp [Ix]
      · rw [if_neg q1, s3, mul_one (bS _ _), Nat.xor_self]; unfold Ix; rw [if_neg q1]
    · have hj' : j < c := by omega
      by_cases q1 : i = c
      · rw [if_pos q1]; exact s2 i hi j hj'
      · rw [if_neg q1, s2 i hi j hj', s2 c hc j hj', show Ix c j = 0 from by unfold Ix; rw [if_neg (by omega)], mul_zero]; exact Nat.xor_zero _
theorem gj_inv {n : Nat} {M : Mx} (hM : By2 M) : ∀ c, c ≤ n → ∀ q, gj n M c = some q → GJ n c M q
  | 0, _, q, h => by obtain rfl := Option.some.inj h; exact GJ.start hM
  | c + 1, hc, q, h => by
    rw [gj, Option.bind_eq_some_iff] at h
    obtain ⟨q0, h0, h1⟩ := h
    exact (gj_inv hM c (by omega) q0 h0).next hM (by omega) h1
theorem kernel {n c : Nat} {M : Mx} {q : Mx × Mx} (h : GJ n c M q) (hM : By2 M) (hc : c < n) (hs : gstep n c q = none) :
    ∃ v : Nat → Nat, (∀ j, v j < 256) ∧ (∃ j, j < n ∧ v j ≠ 0) ∧ ∀ i, i < n → xs n (fun j => mulN (M i j) (v j)) = 0 := by
  unfold gstep at hs
  split at hs
  · cases hs
  rename_i hp
  obtain ⟨p1, p2, p3, p4⟩ := piv_spec q.1 c (n - c) c
  have hz : ∀ i, c ≤ i → i < n → q.1 i c = 0 := fun i h1 h2 => p3 i h1 (by omega)
  obtain ⟨S, bS, s1, s2⟩ := h.gi.s
  obtain ⟨v, hv⟩ : ∃ v : Nat → Nat, v = fun j => if j < c then q.1 j c else if j = c then 1 else 0 := ⟨_, rfl⟩
  have bv : ∀ j, v j < 256 := fun j => by rw [hv]; simp only; split; exact h.gi.bL _ _; split <;> omega
  have hL : ∀ i, i < n → xs n (fun j => mulN (q.1 i j) (v j)) = 0 := fun i hi => by
    have hsplit : xs n (fun j => mulN (q.1 i j) (v j)) = xs n (fun j => (if j < c then mulN (Ix i j) (q.1 j c) else 0) ^^^ (if j = c then q.1 i c else 0)) := xs_congr fun j hj => by
      rw [hv]
      simp only
      by_cases q1 : j < c
      · rw [if_pos q1, if_pos q1, if_neg (by omega), h.u i j hi q1]; exact (Nat.xor_zero _).symm
      · rw [if_neg q1, if_neg q1]
        by_cases q2 : j = c
        · rw [if_pos q2, if_pos q2, q2, mul_one (h.gi.bL _ _)]; exact (Nat.zero_xor _).symm
        · rw [if_neg q2, if_neg q2, mul_zero]; rfl
    rw [hsplit, xs_xor, xs_one (c := c) (f := fun j => if j = c then q.1 i c else 0) hc (fun j _ hj => if_neg hj)]
    simp only [if_true]
    by_cases q1 : i < c
    · rw [xs_one (c := i) hi (fun j _ hj => by split; unfold Ix; rw [if_neg (Ne.symm hj)]; exact zero_mul _; rfl)]
      rw [if_pos q1]
      unfold Ix
      rw [if_pos rfl, one_mul (h.gi.bL _ _)]
      exact Nat.xor_self _
    · rw [xs_none (fun j _ => by
        by_cases q2 : j < c
        · rw [if_pos q2]; unfold Ix; rw [if_neg (by omega)]; exact zero_mul _
        · rw [if_neg q2]), hz i (by omega) hi]
      rfl
  refine ⟨v, bv, ⟨c, hc, by rw [hv]; simp⟩, fun i hi => ?_⟩
  -- M v = S (R M) v = S (L v) = 0
  have hcol : ∀ (A : Mx) (i : Nat), xs n (fun j => mulN (A i j) (v j)) = mm n A (fun k _ => v k) i 0 := fun A i => rfl
  have bV : By2 (fun k _ => v k) := fun k _ => bv k
  rw [hcol, ← mm_one_left (n := n) (mm_by n M _) hi]
  rw [mm_congr (A' := mm n S q.2) (B' := mm n M (fun k _ => v k)) (fun k hk => (s1 i k hi hk).symm) (fun _ _ => rfl)]
  rw [mm_assoc bS h.gi.bR (mm_by _ _ _)]
  refine xs_none fun k hk => ?_
  rw [← mm_assoc h.gi.bR hM bV, mm_congr (A' := q.1) (B' := fun k _ => v k) (fun j hj => h.gi.a k j hk hj) (fun _ _ => rfl), ← hcol, hL k hk]
  exact mul_zero _
theorem gj_none {n : Nat} {M : Mx} (hM : By2 M) : ∀ c, c ≤ n → gj n M c = none → ∃ v : Nat → Nat, (∀ j, v j < 256) ∧ (∃ j, j < n ∧ v j ≠ 0) ∧ ∀ i, i < n → xs n (fun j => mulN (M i j) (v j)) = 0
  | 0, _, h => by cases h
  | c + 1, hc, h => by
    rw [gj, Option.bind_eq_none_iff] at h
    rcases hq : gj n M c with _ | q0
    · exact gj_none hM c (by omega) hq
    · exact kernel (gj_inv hM c (by omega) q0 hq) hM (by omega) (h q0 hq)
/-- What the elimination tells: an inverse from both sides, or columns that go together to nothing. -/
theorem gauss {n : Nat} {M : Mx} (hM : By2 M) : (∃ q, gj n M n = some q ∧ By2 q.2 ∧ (∀ i j, i < n → j < n → mm n q.2 M i j = Ix i j) ∧ (∀ i j, i < n → j < n → mm n M q.2 i j = Ix i j)) ∨
    (gj n M n = none ∧ ∃ v : Nat → Nat, (∀ j, v j < 256) ∧ (∃ j, j < n ∧ v j ≠ 0) ∧ ∀ i, i < n → xs n (fun j => mulN (M i j) (v j)) = 0) := by
  rcases hq : gj n M n with _ | q
  · exact .inr ⟨rfl, gj_none hM n (Nat.le_refl _) hq⟩
  · have h := gj_inv hM n (Nat.le_refl _) q hq
    obtain ⟨S, bS, s1, s2⟩ := h.gi.s
    have r1 : ∀ i j, i < n → j < n → mm n q.2 M i j = Ix i j := fun i j hi hj => (h.gi.a i j hi hj).trans (h.u i j hi hj)
    -- M = S (R M) = S
    have r2 : ∀ i j, i < n → j < n → M i j = S i j := fun i j hi hj => by
      rw [← mm_one_left (n := n) hM hi, mm_congr (A' := mm n S q.2) (B' := M) (fun k hk => (s1 i k hi hk).symm) (fun _ _ => rfl), mm_assoc bS h.gi.bR hM, mm_congr (A' := S) (B' := Ix) (fun _ _ => rfl) (fun k hk => r1 k j hk hj)]
      exact mm_one_right bS hj
    refine .inl ⟨q, rfl, h.gi.bR, r1, fun i j hi hj => ?_⟩
    rw [mm_congr (A' := S) (B' := q.2) (fun k hk => r2 i k hi hk) (fun _ _ => rfl)]
    exact s1 i j hi hj
end Go.Proofs.Ytoghhpkmficnmaa.GfMath
