/- Regions that draw their order, with a condition S on the world that holds till operation number s (a store into what S names) comes up; each operation that is branched over goes by an arm of its own, named by its number. -/
import Derived.Deep.RegionHeld3
import Derived.StillTail
namespace Go.Proofs.RegT
open Go
section
variable {P : Program} {ops : Array Oper} {Q : Exit → Act → World → Prop} {md : Region.Mode} {S : World → Prop} {s : Nat}
/-- Whatever order is picked; S holds behind each operation, as long as s has not come up. -/
def AnyT (P : Program) (md : Region.Mode) (ops : Array Oper) (Q : Exit → Act → World → Prop) (S : World → Prop) (s : Nat) : Nat → Array Bool → Act → World → Prop
  | 0, l, a, w => Region.ready md ops l = [] ∧ Q .normal a w
  | f + 1, l, a, w => (Region.ready md ops l = [] → Q .normal a w) ∧ ∀ i ∈ Region.ready md ops l, wpOp P ops Q i (fun a' w' => ((l.setIfInBounds i true).getD s true = false → S w') ∧ AnyT P md ops Q S s f (l.setIfInBounds i true) a' w') a w
theorem AnyT.any : ∀ {f : Nat} {l : Array Bool} {a : Act} {w : World}, AnyT P md ops Q S s f l a w → wpAny P md ops Q f l a w
  | 0, _, _, _, h => h
  | _ + 1, _, _, _, h => ⟨h.1, fun i hi => wpOp_mono (fun _ _ h' => AnyT.any h'.2) (h.2 i hi)⟩
/-- What waits for i, through others too. -/
def behind (md : Region.Mode) (ops : Array Oper) (i : Nat) : List Nat :=
  (List.range ops.size).foldl (fun acc c => if (i :: acc).any (fun d => Region.waitsFor md ops c d) then c :: acc else acc) []
/-- s waits for i, through others too, and none of these has come up. -/
def tillB (md : Region.Mode) (ops : Array Oper) (s : Nat) (l : Array Bool) (i : Nat) : Bool :=
  (behind md ops i).contains s && (behind md ops i).all fun c => (i :: behind md ops i).any (fun d => Region.waitsFor md ops c d) && (decide (c ≠ i) && !l.getD c true)
theorem AnyT.first {i : Nat} {oi : Oper} {v : Value} (hi : ops[i]? = some oi) (hsel : ∀ (j : Nat) (o : Oper) cs b, ops[j]? = some o → o.op ≠ .select cs b) (hQ : ∀ c a w, Q (.panic c) (a.put oi.dst v) w → Q (.panic c) a w) {ch : List Nat} (hsc : s ∈ ch) (hw : ∀ c ∈ ch, c ≠ i ∧ ∃ d ∈ i :: ch, Region.waitsFor md ops c d = true) :
    ∀ (f : Nat) (l : Array Bool) (a : Act) (w : World), (∀ j oj, ops[j]? = some oj → j ≠ i → l.getD j true = false → (∀ e ∈ oj.after, Region.binds md e = true → e.on ≠ i) → oi.apart ops oj = true) → i ∈ Region.ready md ops l → YieldsIf P ops S oi v a → S w → (∀ c ∈ ch, l.getD c true = false) → AnyT P md ops Q S s f (l.setIfInBounds i true) (a.put oi.dst v) w → AnyT P md ops Q S s (f + 1) l a w := by
  intro f
  induction f with
  | zero =>
    intro l a w _ hr hy hS hl H
    refine ⟨fun h => (by rw [h] at hr; cases hr), fun j hj => ?_⟩
    by_cases hji : j = i
    · subst hji
      exact hy.wpOp hi hS ⟨fun _ => hS, H⟩
    · have h1 := ready_mono hj hji
      rw [H.1] at h1
      cases h1
  | succ f ih =>
    intro l a w hfree hr hy hS hl H
    refine ⟨fun h => (by rw [h] at hr; cases hr), fun j hj => ?_⟩
    by_cases hji : j = i
    · subst hji
      exact hy.wpOp hi hS ⟨fun _ => hS, H⟩
    · have h1 := H.2 j (ready_mono hj hji)
      obtain ⟨hun, oj, hoj, hall⟩ := mem_ready.1 hj
      have hno' : ∀ d, l.getD d true = false → ∀ e ∈ oj.after, Region.binds md e = true → e.on ≠ d := fun d h3 e he hb heq => by
        have h2 := hall e he hb
        rw [heq] at h2
        rcases Nat.lt_or_ge d l.size with h' | h'
        · simp [h'] at h2 h3
          rw [h3] at h2
          cases h2
        · simp [Array.getElem?_eq_none h'] at h2
      have hno := hno' i (mem_ready.1 hr).1
      have hjc : j ∉ ch := by
        intro hjc
        obtain ⟨_, d, hd, hwd⟩ := hw j hjc
        obtain ⟨o2, ho2, e, he, hb, hon⟩ := Region.waitsFor_spec hwd
        rw [hoj] at ho2
        cases ho2
        rcases List.mem_cons.1 hd with rfl | hd
        · exact hno e he hb hon
        · exact hno' d (hl d hd) e he hb hon
      have hjs : j ≠ s := fun h => hjc (h ▸ hsc)
      have hsi : s ≠ i := (hw s hsc).1
      have h2 := wpOp_putIf hoj (hfree j oj hoj hji hun hno) (fun cs b => hsel i oi cs b hi) (fun cs b => hsel j oj cs b hoj) hQ hy h1
      refine wpOp_mono (fun a' w' h3 => ?_) h2
      obtain ⟨hy', hs', hA⟩ := h3
      rw [getD_set_ne true hjs, getD_set_ne true (Ne.symm hsi)] at hs'
      refine ⟨fun h4 => hs' (by rwa [getD_set_ne true hjs] at h4), ?_⟩
      refine ih (l.setIfInBounds j true) a' w' (fun k ok hk hki hun' hno' => hfree k ok hk hki ?_ hno') (ready_mono hr (Ne.symm hji)) hy' (hs' (hl s hsc)) (fun c hc => (getD_set_ne true (fun h : j = c => hjc (by rw [h]; exact hc))).trans (hl c hc)) ?_
      · by_cases hjk : j = k
        · subst hjk; exact hun
        · rwa [getD_set_ne true hjk] at hun'
      · rw [Array.setIfInBounds_comm _ _ hji]
        exact hA
theorem AnyT.take {i : Nat} {oi : Oper} {v : Value} {f : Nat} {l : Array Bool} {a : Act} {w : World} (hi : ops[i]? = some oi) (hs : Region.noSelect ops = true) (hf : Region.free md ops l i = true) (hr : (Region.ready md ops l).contains i = true) (hw : tillB md ops s l i = true)
    (hQ : ∀ c a w, Q (.panic c) (a.put oi.dst v) w → Q (.panic c) a w) (hy : YieldsIf P ops S oi v a) (hS : S w) (h : AnyT P md ops Q S s f (l.setIfInBounds i true) (a.put oi.dst v) w) : AnyT P md ops Q S s (f + 1) l a w := by
  unfold tillB at hw
  rw [Bool.and_eq_true, List.all_eq_true] at hw
  obtain ⟨h1, h2⟩ := hw
  have h3 : ∀ c ∈ behind md ops i, (i :: behind md ops i).any (fun d => Region.waitsFor md ops c d) = true ∧ c ≠ i ∧ l.getD c true = false := fun c hc => by
    have := h2 c hc
    rw [Bool.and_eq_true, Bool.and_eq_true] at this
    exact ⟨this.1, by simpa using this.2.1, by simpa using this.2.2⟩
  exact AnyT.first hi (Region.noSelect_spec hs) hQ (ch := behind md ops i) (by simpa using h1) (fun c hc => ⟨(h3 c hc).2.1, by simpa using List.any_eq_true.1 (h3 c hc).1⟩) f l a w (Region.free_spec hi hf) (by simpa using hr) hy hS (fun c hc => (h3 c hc).2.2) h
/-- Each of these comes up next. -/
def AllT (P : Program) (md : Region.Mode) (ops : Array Oper) (Q : Exit → Act → World → Prop) (S : World → Prop) (s f : Nat) (l : Array Bool) (a : Act) (w : World) (rs : List Nat) : Prop :=
  ∀ i ∈ rs, wpOp P ops Q i (fun a' w' => ((l.setIfInBounds i true).getD s true = false → S w') ∧ AnyT P md ops Q S s f (l.setIfInBounds i true) a' w') a w
theorem AllT.nil {f : Nat} {l : Array Bool} {a : Act} {w : World} : AllT P md ops Q S s f l a w [] := fun _ h => by cases h
theorem AllT.cons {f : Nat} {l : Array Bool} {a : Act} {w : World} {i : Nat} {o : Oper} {rs : List Nat} (ho : ops[i]? = some o)
    (h : ∀ K' : Act → World → Prop, Shut (∀ a w, ((l.setIfInBounds i true).getD s true = false → S w) → AnyT P md ops Q S s f (l.setIfInBounds i true) a w → K' a w) → if Region.wanted o (yielded ops a.tmps) = true then Oper.wp P o a w K' Q else K' (a.put o.dst undef) w)
    (hs : AllT P md ops Q S s f l a w rs) : AllT P md ops Q S s f l a w (i :: rs) := fun j hj => by
  rcases List.mem_cons.1 hj with rfl | hj
  · exact wpOp_step ho (fun K' hK => h K' (fun a w hS hW => hK a w ⟨hS, hW⟩))
  · exact hs j hj
theorem AnyT.ready {rs : List Nat} {f : Nat} {l : Array Bool} {a : Act} {w : World} (hr : Region.ready md ops l = rs) (hne : rs ≠ []) (h : AllT P md ops Q S s f l a w rs) : AnyT P md ops Q S s (f + 1) l a w :=
  ⟨fun h0 => absurd (hr ▸ h0) hne, hr ▸ h⟩
theorem AnyT.done {l : Array Bool} {a : Act} {w : World} (hr : Region.ready md ops l = []) (h : Q .normal a w) : ∀ f, AnyT P md ops Q S s f l a w
  | 0 => ⟨hr, h⟩
  | _ + 1 => ⟨fun _ => h, by rw [hr]; simp⟩
theorem rt_begin {id : Nat} {a : Act} {w : World} (hm : P.follows .mixedOrders = true) (h : AnyT P .any ops Q S s ops.size (Array.replicate ops.size false) a w.drew) : (Code.region id ops true).wp P Q a w :=
  wp_region_any hm h.any
end
theorem ofDrop {ops : Array Oper} {i : Nat} {oi : Oper} {rest : List Oper} (h : ops.toList.drop i = oi :: rest) : ops[i]? = some oi := by
  have h1 : (ops.toList.drop i)[0]? = some oi := by rw [h]; rfl
  rw [List.getElem?_drop] at h1
  simpa using h1
section
variable {P : Program} {ops : Array Oper} {Q : Exit → Act → World → Prop} {md : Region.Mode} {S : World → Prop} {s : Nat}
theorem AnyT.taken {i : Nat} {oi : Oper} {rest : List Oper} {v : Value} {f : Nat} {l : Array Bool} {a : Act} {w : World} (hi : ops.toList.drop i = oi :: rest) (hs : Region.noSelect ops = true) (hf : Region.free md ops l i = true) (hr : (Region.ready md ops l).contains i = true) (hw : tillB md ops s l i = true)
    (hQ : ∀ c a w, Q (.panic c) (a.put oi.dst v) w → Q (.panic c) a w) (hy : YieldsIf P ops S oi v a) (hS : S w) (h : AnyT P md ops Q S s f (l.setIfInBounds i true) (a.put oi.dst v) w) : AnyT P md ops Q S s (f + 1) l a w :=
  AnyT.take (ofDrop hi) hs hf hr hw hQ hy hS h
theorem AllT.step {f : Nat} {l : Array Bool} {a : Act} {w : World} {i : Nat} {o : Oper} {rest : List Oper} {rs : List Nat} (ho : ops.toList.drop i = o :: rest)
    (h : ∀ K' : Act → World → Prop, Shut (∀ a w, ((l.setIfInBounds i true).getD s true = false → S w) → AnyT P md ops Q S s f (l.setIfInBounds i true) a w → K' a w) → if Region.wanted o (yielded ops a.tmps) = true then Oper.wp P o a w K' Q else K' (a.put o.dst undef) w)
    (hs : AllT P md ops Q S s f l a w rs) : AllT P md ops Q S s f l a w (i :: rs) := AllT.cons (ofDrop ho) h hs
/-- s has come up: S need not be shown. -/
theorem past {l : Array Bool} {p : Prop} (h : l.getD s true = true) : l.getD s true = false → p := fun h' => by rw [h] at h'; cases h'
end
end Go.Proofs.RegT
