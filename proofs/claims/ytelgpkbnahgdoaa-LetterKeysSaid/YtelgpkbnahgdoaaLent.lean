import Derived.Test.YtelgpkbnahgdoaaF0
/- A slice that is lent: behind its end, in its own row, stands a mark. -/
namespace Go.Proofs.Ytelgpkbnahgdoaa.Al
open Go.RowKit Go.Proofs.YtelgpkbnahgdoaaW.PrintWords Go.Proofs.YtelgpkbnahgdoaaW.PrintLast Go.Proofs.YtelgpkbnahgdoaaW.PrintMore
section
variable {α : Type} {d : Kd α} {e : Nat} {m : α} {w w1 : World} {base base' : Nat} {ok : Nat → Prop} {v : Value} {l : List α}
def RL (d : Kd α) (e : Nat) (m : α) (w : World) (base : Nat) (ok : Nat → Prop) (v : Value) (l : List α) : Prop :=
  Kd.R d e w base ok v l ∧ ∃ A c, v = .slice A l.length c ∧ Kd.R d e w base ok (.slice A (l.length + 1) c) (l ++ [m])
theorem RL_below (h : RL d e m w base ok v l) (hb : Below w.heap.size w w1) : RL d e m w1 base ok v l := by
  obtain ⟨h1, A, c, hv, h2⟩ := h
  exact ⟨Kd.R_below h1 hb, A, c, hv, Kd.R_below h2 hb⟩
theorem RL_lower (h : RL d e m w base ok v l) (hb : base' ≤ base) : RL d e m w base' ok v l := by
  obtain ⟨h1, A, c, hv, h2⟩ := h
  exact ⟨Kd.R_lower h1 hb, A, c, hv, Kd.R_lower h2 hb⟩
theorem RL_alloc (h : RL d e m w base ok v l) (o : Obj) : RL d e m (w.alloc o) base ok v l := RL_below h (below_alloc (Below.refl _ _) o)
theorem RL_drew (h : RL d e m w base ok v l) : RL d e m w.drew base ok v l := RL_below h (below_drew (Below.refl _ _))
theorem RL_drewN (h : RL d e m w base ok v l) (n : Nat) : RL d e m (w.drewN n) base ok v l := RL_below h (pw_below_drewN (Below.refl _ _) n)
theorem RL_mono {ok' : Nat → Prop} (h : RL d e m w base ok v l) (hk : ∀ k, ok k → ok' k) : RL d e m w base ok' v l := by
  obtain ⟨h1, A, c, hv, h2⟩ := h
  exact ⟨Kd.R_mono h1 hk, A, c, hv, Kd.R_mono h2 hk⟩
theorem RL_far (h : RL d e m w base ok v l) {p : Addr} (hok : ∀ k, ok k → k ≠ p.block) (u : Value) : RL d e m (w.setCell p u) base ok v l := by
  obtain ⟨h1, A, c, hv, h2⟩ := h
  exact ⟨Kd.R_far h1 hok u, A, c, hv, Kd.R_far h2 hok u⟩
theorem RL_types (h : RL d e m w base ok v l) {g t : Nat} {cells : Array Value} (hb : w.heap[g]? = some (.cells cells t (0, 0))) (ht : ∀ q, q ∈ e :: d.E → q ≠ t) : RL d e m w base (fun k => ok k ∧ k ≠ g) v l := by
  obtain ⟨h1, A, c, hv, h2⟩ := h
  exact ⟨Kd.R_types h1 hb ht, A, c, hv, Kd.R_types h2 hb ht⟩
theorem RL_elderB (h : RL d e m w base ok v l) (a : Nat) (ha : w.heap.size ≤ a) : RL d e m w base (fun k => ok k ∧ k ≠ a) v l := by
  obtain ⟨h1, A, c, hv, h2⟩ := h
  exact ⟨Kd.R_elderB h1 a ha, A, c, hv, Kd.R_elderB h2 a ha⟩
theorem RL_elder' {u : Value} (h : RL d e m w base ok v l) (hbase : ∀ k, u.ownBlock = some k → w.heap.size ≤ k) (hb : Below w.heap.size w w1) : RL d e m w1 base (fun k => ok k ∧ some k ≠ u.ownBlock) v l := by
  obtain ⟨h1, A, c, hv, h2⟩ := h
  exact ⟨Kd.R_elder' h1 hbase hb, A, c, hv, Kd.R_elder' h2 hbase hb⟩
theorem RL_keptB {S : Nat → Prop} (h : RL d e m w base ok v l) (hk : Kept w w1 S) (hne : ∀ k, ok k → ¬ S k) : RL d e m w1 base (fun k => ok k ∧ (¬ S k ∧ k < w.heap.size)) v l := by
  obtain ⟨h1, A, c, hv, h2⟩ := h
  exact ⟨Kd.R_keptB h1 hk hne, A, c, hv, Kd.R_keptB h2 hk hne⟩
theorem RL_newB {g : Nat} {o : Obj} (h : RL d e m w1 w.heap.size ok v l) (hb : w.heap[g]? = some o) : RL d e m w1 w.heap.size (fun k => ok k ∧ k ≠ g) v l := by
  obtain ⟨h1, A, c, hv, h2⟩ := h
  exact ⟨Kd.R_newB h1 hb, A, c, hv, Kd.R_newB h2 hb⟩
theorem RL_fst (h : RL d e m w base ok v l) : Kd.R d e w base ok v l := h.1
theorem RL_C {A : Option Addr} {n c : Nat} (h : RL d e m w base ok (.slice A n c) l) : d.C w A (l.length + 1) (l ++ [m]) := by
  obtain ⟨_, A', c', hv, h2⟩ := h
  injection hv with h3 h4 h5
  subst h3
  have := (Kd.R_reads' h2).2.2
  rwa [List.length_append] at this
theorem RL_cap {A : Option Addr} {n c : Nat} (h : RL d e m w base ok (.slice A n c) l) : l.length + 1 ≤ c := by
  obtain ⟨_, A', c', hv, h2⟩ := h
  injection hv with h3 h4 h5
  subst h5
  exact (Kd.R_reads' h2).2.1
theorem RL_of {A : Option Addr} {c : Nat} {ys : List α} (h1 : Kd.R d e w base ok (.slice A l.length c) l) (h2 : Kd.R d e w base ok (.slice A ys.length c) ys) (hy : ys = l ++ [m]) : RL d e m w base ok (.slice A l.length c) l := by
  subst hy
  rw [List.length_append] at h2
  exact ⟨h1, A, c, rfl, h2⟩
theorem cut_beyond {P : Program} (t e : TypeId) (kh : IntKind) {i : TypeInfo} (ht : P.underlying t = some (.slice e)) (hi : P.info? e = some i) (A : Option Addr) (n c : Nat) (j : Int) (h0 : 0 ≤ j) (hm : j ≤ c) :
    ∀ W : World, (Instr.slice t (.slice A n c) none (some (.int kh j)) none).run P W = .ok (.slice A j.toNat c) W := by
  intro W
  have hel : P.elem t = e := by simp [Program.elem, ht]
  have hu : P.underlying t = some (.slice (P.elem t)) := by rw [hel]; exact ht
  have ha : (A.map fun x => x.add 0) = A := by cases A <;> simp [Addr.add]
  rw [run_slice_h W t A n c hu kh j h0 (by omega), hel]
  simp [sizeOf, typeInfo, hi, sliced, Result.andThen, ha]
end
end Go.Proofs.Ytelgpkbnahgdoaa.Al
