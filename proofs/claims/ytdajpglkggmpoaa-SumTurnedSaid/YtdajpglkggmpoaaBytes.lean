/- A block of bytes of the call's own, a conversion's or a make's: what stands in it, what a store leaves, the text that it makes. -/
import Derived.Test.YtdajpglkggmpoaaF0
import Derived.Test.YtdajpglkggmpoaaBase
namespace Go.Proofs.Ytdajpglkggmpoaa.Bytes
open Go.RowKit Go.Proofs.Ytdajpglkggmpoaa.Base Go.Proofs.YtdajpglkggmpoaaW.PrintWords
/-- Block g holds n bytes: the i-th is f i. -/
def Bc (w : World) (g n : Nat) (f : Nat → Int) : Prop := ∃ (cs : Array Value) (e : TypeId) (fr : Nat × Nat), w.heap[g]? = some (.cells cs e fr) ∧ (∀ j, j < n → cs[j]? = some (.int .u8 (f j))) ∧ (∀ j, j < n → ¬ (fr.1 ≤ j ∧ j < fr.2))
variable {w : World} {g n : Nat} {f : Nat → Int}
theorem Bc.cell (h : Bc w g n f) {j : Nat} (hj : j < n) : w.cell? ⟨g, j, none⟩ = some (.int .u8 (f j)) := by
  obtain ⟨cs, e, fr, h1, h2, _⟩ := h
  rw [cell_of_row w g j cs e fr h1]
  exact h2 j hj
theorem Bc.frozen (h : Bc w g n f) {j : Nat} (hj : j < n) : w.frozen? ⟨g, j, none⟩ = false := by
  obtain ⟨cs, e, fr, h1, _, h3⟩ := h
  have := h3 j hj
  simp only [World.frozen?, h1]
  simp
  omega
theorem Bc.set (h : Bc w g n f) {j : Nat} (hj : j < n) (v : Int) : Bc (w.setCell ⟨g, j, none⟩ (.int .u8 v)) g n (fun i => if i = j then v else f i) := by
  obtain ⟨cs, e, fr, h1, h2, h3⟩ := h
  have hlt : j < cs.size := (Array.getElem?_eq_some_iff.1 (h2 j hj)).1
  refine ⟨cs.setIfInBounds j (.int .u8 v), e, fr, ?_, fun i hi => ?_, h3⟩
  · simp [World.setCell, Array.getElem?_modify, h1]
  · by_cases he : i = j
    · subst he
      rw [Array.getElem?_setIfInBounds_self_of_lt hlt]
      simp
    · rw [Array.getElem?_setIfInBounds_ne (Ne.symm he)]
      simp only [if_neg he]
      exact h2 i hi
theorem Bc.keep {w1 : World} (h : Bc w g n f) (hk : w1.heap[g]? = w.heap[g]?) : Bc w1 g n f := by
  obtain ⟨cs, e, fr, h1, h2, h3⟩ := h
  exact ⟨cs, e, fr, hk.trans h1, h2, h3⟩
theorem Bc.lt (h : Bc w g n f) : g < w.heap.size := by
  obtain ⟨cs, e, fr, h1, _⟩ := h
  exact (Array.getElem?_eq_some_iff.1 h1).1
theorem Bc.below {w1 : World} (h : Bc w g n f) (hb : Below w.heap.size w w1) : Bc w1 g n f := h.keep (hb.block g h.lt)
theorem Bc.drewN (h : Bc w g n f) (m : Nat) : Bc (w.drewN m) g n f := h.keep rfl
theorem Bc.congr {f' : Nat → Int} (h : Bc w g n f) (he : ∀ j, j < n → f j = f' j) : Bc w g n f' := by
  obtain ⟨cs, e, fr, h1, h2, h3⟩ := h
  exact ⟨cs, e, fr, h1, fun j hj => by rw [← he j hj]; exact h2 j hj, h3⟩
theorem Bc.far (h : Bc w g n f) {p : Addr} (hp : g ≠ p.block) (u : Value) : Bc (w.setCell p u) g n f := h.keep (Below.heap_setCell w p u g hp)
/-- []byte(s). -/
theorem bc_conv (w : World) (e : TypeId) (s : ByteArray) : Bc (Lib.bytesWorld w e s) w.heap.size s.size (fun j => bt s j) := by
  refine ⟨Lib.bytesCells w e s, e, _, Lib.bytesWorld_at_new w e s, fun j hj => ?_, fun j hj => ?_⟩
  · have h1 : j < (Lib.bytesCells w e s).size := by
      have : s.data.size = s.size := rfl
      simp [Lib.bytesCells]; omega
    have hd : j < s.data.size := hj
    rw [Array.getElem?_eq_getElem h1]
    simp only [Lib.bytesCells]
    rw [Array.getElem_append_left (by simpa using hd), Array.getElem_map]
    congr 2
    unfold bt
    simp only [Int.toNat_natCast, hj, dif_pos]
    first | done | rfl
  · have : s.size ≤ (Lib.bytesCells w e s).size := by
      have : s.data.size = s.size := rfl
      simp [Lib.bytesCells]
    simp only
    omega
/-- make([]byte, n). -/
theorem bc_lit (w : World) (e : TypeId) (cs : Array Value) (n : Nat) (h : ∀ j, j < n → cs[j]? = some (.int .u8 0)) : Bc (w.alloc (.cells cs e)) w.heap.size n (fun _ => 0) :=
  ⟨cs, e, (0, 0), heap_alloc_new w _, h, fun j _ hc => by omega⟩
theorem made_get (z : Value) (n j : Nat) (h : j < n) : (madeCells #[z] n)[j]? = some z := by simp [madeCells, h, Nat.mod_one]
def listOf (n : Nat) (f : Nat → Int) : List Int := (List.range n).map f
theorem listOf_length (n : Nat) (f : Nat → Int) : (listOf n f).length = n := by simp [listOf]
theorem listOf_get (n : Nat) (f : Nat → Int) (i : Nat) (h : i < n) : (listOf n f)[i]? = some (f i) := by simp [listOf, h]
theorem rd_listOf (n : Nat) (f : Nat → Int) (i : Nat) (h : i < n) : rd (listOf n f) i = f i := by simp [rd, List.getD_eq_getElem?_getD, listOf_get n f i h]
theorem Bc.reads (h : Bc w g n f) (hn : n ≤ 9223372036854775807) : ReadsInt w .u8 (some ⟨g, 0, none⟩) n (listOf n f) := by
  refine ⟨listOf_length n f, hn, fun _ => ⟨_, rfl, fun j hj => ?_⟩⟩
  rw [add_plain, h.cell hj]
  simp [List.getD_eq_getElem?_getD, listOf_get n f j hj]
theorem Bc.string {P : Program} {src dst e : TypeId} {c : Nat} (hs : P.underlying src = some (.slice e)) (he : P.underlying e = some (.int .u8)) (hd : P.underlying dst = some .string) (h : Bc w g n f) (hn : n ≤ 9223372036854775807) :
    (convert src dst (.slice (some ⟨g, 0, none⟩) n c)).run P w = .ok (.string (strOfNums (listOf n f))) w := string_of_reads hs he hd (h.reads hn)
theorem listOf_congr {n : Nat} {f f' : Nat → Int} (h : ∀ i, i < n → f i = f' i) : listOf n f = listOf n f' := by
  unfold listOf
  apply List.map_congr_left
  intro i hi
  exact h i (by simpa using hi)
end Go.Proofs.Ytdajpglkggmpoaa.Bytes
