/- What the laws stand on, in one text: functions of the program by their contracts, the plain mathematics behind them, and such of the printed words as these use. It began as the kit's print and own texts; put together by a program (trim.py). -/
import Derived.Test.YtelgpkbnahgdoaaPrb
import Derived.Deep.RegionHeld3
import Derived.StillTail
import Derived.Deep.RegionLaw
import Derived.IntWalk

namespace Go.Proofs.RegT
open Go
section
variable {P : Program} {ops : Array Oper} {Q : Exit → Act → World → Prop} {md : Region.Mode} {S : World → Prop} {s : Nat}
/-- Whatever order is picked; S holds behind each operation, as long as s has not come up. -/
def AnyT (P : Program) (md : Region.Mode) (ops : Array Oper) (Q : Exit → Act → World → Prop) (S : World → Prop) (s : Nat) : Nat → Array Bool → Act → World → Prop
 |0, l, a, w => Region.ready md ops l = [] ∧ Q .normal a w
 |f + 1, l, a, w => (Region.ready md ops l = [] → Q .normal a w) ∧ ∀ i ∈ Region.ready md ops l, wpOp P ops Q i (fun a' w' => ((l.setIfInBounds i true).getD s true = false → S w') ∧ AnyT P md ops Q S s f (l.setIfInBounds i true) a' w') a w
theorem AnyT.any : ∀ {f : Nat} {l : Array Bool} {a : Act} {w : World}, AnyT P md ops Q S s f l a w → wpAny P md ops Q f l a w
 |0, _, _, _, h => h
 |_ + 1, _, _, _, h => ⟨h.1, fun i hi => wpOp_mono (fun _ _ h' => AnyT.any h'.2) (h.2 i hi)⟩
/-- What waits for i, through others too. -/
def behind (md : Region.Mode) (ops : Array Oper) (i : Nat) : List Nat :=
 (List.range ops.size).foldl (fun acc c => if (i :: acc).any (fun d => Region.waitsFor md ops c d) then c :: acc else acc) []
/-- s waits for i, through others too, and none of these has come up. -/
def tillB (md : Region.Mode) (ops : Array Oper) (s : Nat) (l : Array Bool) (i : Nat) : Bool :=
 (behind md ops i).contains s && (behind md ops i).all fun c => (i :: behind md ops i).any (fun d => Region.waitsFor md ops c d) && (decide (c ≠ i) && !l.getD c true)
theorem AnyT.first {i : Nat} {oi : Oper} {v : Value} (hi : ops[i]? = some oi) (hsel : ∀ (j : Nat) (o : Oper) cs b, ops[j]? = some o → o.op ≠ .select cs b) (hQ : ∀ c a w, Q (.panic c) (a.put oi.dst v) w → Q (.panic c) a w) {ch : List Nat} (hsc : s ∈ ch) (hw : ∀ c ∈ ch, c ≠ i ∧ ∃ d ∈ i :: ch, Region.waitsFor md ops c d = true) :
  ∀ (f : Nat) (l : Array Bool) (a : Act) (w : World), (∀ j oj, ops[j]? = some oj → j ≠ i → l.getD j true = false → (∀ e ∈ oj.after, Region.binds md e = true → e.on ≠ i) → oi.apart ops oj = true) → i ∈ Region.ready md ops l → YieldsIf P ops S oi v a → S w → (∀ c ∈ ch, l.getD c true = false) → AnyT P md ops Q S s f (l.setIfInBounds i true) (a.put oi.dst v) w → AnyT P md ops Q S s (f + 1) l a w := by
 intro f
 induction f with
 |zero =>
  intro l a w _ hr hy hS hl H
  refine ⟨fun h => (by rw [h] at hr; cases hr), fun j hj => ?_⟩
  by_cases hji : j = i
  ·subst hji
   exact hy.wpOp hi hS ⟨fun _ => hS, H⟩
  ·have h1 := ready_mono hj hji
   rw [H.1] at h1
   cases h1
 |succ f ih =>
  intro l a w hfree hr hy hS hl H
  refine ⟨fun h => (by rw [h] at hr; cases hr), fun j hj => ?_⟩
  by_cases hji : j = i
  ·subst hji
   exact hy.wpOp hi hS ⟨fun _ => hS, H⟩
  ·have h1 := H.2 j (ready_mono hj hji)
   obtain ⟨hun, oj, hoj, hall⟩ := mem_ready.1 hj
   have hno' : ∀ d, l.getD d true = false → ∀ e ∈ oj.after, Region.binds md e = true → e.on ≠ d := fun d h3 e he hb heq => by
    have h2 := hall e he hb
    rw [heq] at h2
    rcases Nat.lt_or_ge d l.size with h' | h'
    ·simp [h'] at h2 h3
     rw [h3] at h2
     cases h2
    ·simp [Array.getElem?_eq_none h'] at h2
   have hno := hno' i (mem_ready.1 hr).1
   have hjc : j ∉ ch := by
    intro hjc
    obtain ⟨_, d, hd, hwd⟩ := hw j hjc
    obtain ⟨o2, ho2, e, he, hb, hon⟩ := Region.waitsFor_spec hwd
    rw [hoj] at ho2
    cases ho2
    rcases List.mem_cons.1 hd with rfl | hd
    ·exact hno e he hb hon
    ·exact hno' d (hl d hd) e he hb hon
   have hjs : j ≠ s := fun h => hjc (h ▸ hsc)
   have hsi : s ≠ i := (hw s hsc).1
   have h2 := wpOp_putIf hoj (hfree j oj hoj hji hun hno) (fun cs b => hsel i oi cs b hi) (fun cs b => hsel j oj cs b hoj) hQ hy h1
   refine wpOp_mono (fun a' w' h3 => ?_) h2
   obtain ⟨hy', hs', hA⟩ := h3
   rw [getD_set_ne true hjs, getD_set_ne true (Ne.symm hsi)] at hs'
   refine ⟨fun h4 => hs' (by rwa [getD_set_ne true hjs] at h4), ?_⟩
   refine ih (l.setIfInBounds j true) a' w' (fun k ok hk hki hun' hno' => hfree k ok hk hki ?_ hno') (ready_mono hr (Ne.symm hji)) hy' (hs' (hl s hsc)) (fun c hc => (getD_set_ne true (fun h : j = c => hjc (by rw [h]; exact hc))).trans (hl c hc)) ?_
   ·by_cases hjk : j = k
    ·subst hjk; exact hun
    ·rwa [getD_set_ne true hjk] at hun'
   ·rw [Array.setIfInBounds_comm _ _ hji]
    exact hA
theorem AnyT.take {i : Nat} {oi : Oper} {v : Value} {f : Nat} {l : Array Bool} {a : Act} {w : World} (hi : ops[i]? = some oi) (hs : Region.noSelect ops = true) (hf : Region.free md ops l i = true) (hr : (Region.ready md ops l).contains i = true) (hw : tillB md ops s l i = true)
  (hQ : ∀ c a w, Q (.panic c) (a.put oi.dst v) w → Q (.panic c) a w) (hy : YieldsIf P ops S oi v a) (hS : S w) (h : AnyT P md ops Q S s f (l.setIfInBounds i true) (a.put oi.dst v) w) : AnyT P md ops Q S s (f + 1) l a w := by
 unfold tillB at hw
 rw [Bool.and_eq_true, List.all_eq_true] at hw
 obtain ⟨h1, h2⟩ := hw
 have h3 : ∀ c ∈ behind md ops i, (i :: behind md ops i).any (fun d => Region.waitsFor md ops c d) = true ∧ c ≠ i ∧ l.getD c true = false := fun c hc => by
  have := h2 c hc
  rw [Bool.and_eq_true, Bool.and_eq_true] at this
  exact ⟨this.1, by simpa using this.2.1, by simpa using this.2.2⟩
 exact AnyT.first hi (Region.noSelect_spec hs) hQ (ch := behind md ops i) (by simpa using h1) (fun c hc => ⟨(h3 c hc).2.1, by simpa using List.any_eq_true.1 (h3 c hc).1⟩) f l a w (Region.free_spec hi hf) (by simpa using hr) hy hS (fun c hc => (h3 c hc).2.2) h
/-- Each of these comes up next. -/
def AllT (P : Program) (md : Region.Mode) (ops : Array Oper) (Q : Exit → Act → World → Prop) (S : World → Prop) (s f : Nat) (l : Array Bool) (a : Act) (w : World) (rs : List Nat) : Prop :=
 ∀ i ∈ rs, wpOp P ops Q i (fun a' w' => ((l.setIfInBounds i true).getD s true = false → S w') ∧ AnyT P md ops Q S s f (l.setIfInBounds i true) a' w') a w
theorem AllT.nil {f : Nat} {l : Array Bool} {a : Act} {w : World} : AllT P md ops Q S s f l a w [] := fun _ h => by cases h
theorem AllT.cons {f : Nat} {l : Array Bool} {a : Act} {w : World} {i : Nat} {o : Oper} {rs : List Nat} (ho : ops[i]? = some o)
  (h : ∀ K' : Act → World → Prop, Shut (∀ a w, ((l.setIfInBounds i true).getD s true = false → S w) → AnyT P md ops Q S s f (l.setIfInBounds i true) a w → K' a w) → if Region.wanted o (yielded ops a.tmps) = true then Oper.wp P o a w K' Q else K' (a.put o.dst undef) w)
  (hs : AllT P md ops Q S s f l a w rs) : AllT P md ops Q S s f l a w (i :: rs) := fun j hj => by
 rcases List.mem_cons.1 hj with rfl | hj
 ·exact wpOp_step ho (fun K' hK => h K' (fun a w hS hW => hK a w ⟨hS, hW⟩))
 ·exact hs j hj
theorem AnyT.ready {rs : List Nat} {f : Nat} {l : Array Bool} {a : Act} {w : World} (hr : Region.ready md ops l = rs) (hne : rs ≠ []) (h : AllT P md ops Q S s f l a w rs) : AnyT P md ops Q S s (f + 1) l a w :=
 ⟨fun h0 => absurd (hr ▸ h0) hne, hr ▸ h⟩
theorem AnyT.done {l : Array Bool} {a : Act} {w : World} (hr : Region.ready md ops l = []) (h : Q .normal a w) : ∀ f, AnyT P md ops Q S s f l a w
 |0 => ⟨hr, h⟩
 |_ + 1 => ⟨fun _ => h, by rw [hr]; simp⟩
theorem rt_begin {id : Nat} {a : Act} {w : World} (hm : P.follows .mixedOrders = true) (h : AnyT P .any ops Q S s ops.size (Array.replicate ops.size false) a w.drew) : (Code.region id ops true).wp P Q a w :=
 wp_region_any hm h.any
end
theorem ofDrop {ops : Array Oper} {i : Nat} {oi : Oper} {rest : List Oper} (h : ops.toList.drop i = oi :: rest) : ops[i]? = some oi := by
 have h1 : (ops.toList.drop i)[0]? = some oi := by rw [h]; rfl
 rw [List.getElem?_drop] at h1
 simpa using h1
section
variable {P : Program} {ops : Array Oper} {Q : Exit → Act → World → Prop} {md : Region.Mode} {S : World → Prop} {s : Nat}
theorem AnyT.taken {i : Nat} {oi : Oper} {rest : List Oper} {v : Value} {f : Nat} {l : Array Bool} {a : Act} {w : World} (hi : ops.toList.drop i = oi :: rest) (hs : Region.noSelect ops = true) (hf : Region.free md ops l i = true) (hr : (Region.ready md ops l).contains i = true) (hw : tillB md ops s l i = true)
  (hQ : ∀ c a w, Q (.panic c) (a.put oi.dst v) w → Q (.panic c) a w) (hy : YieldsIf P ops S oi v a) (hS : S w) (h : AnyT P md ops Q S s f (l.setIfInBounds i true) (a.put oi.dst v) w) : AnyT P md ops Q S s (f + 1) l a w :=
 AnyT.take (ofDrop hi) hs hf hr hw hQ hy hS h
theorem AllT.step {f : Nat} {l : Array Bool} {a : Act} {w : World} {i : Nat} {o : Oper} {rest : List Oper} {rs : List Nat} (ho : ops.toList.drop i = o :: rest)
  (h : ∀ K' : Act → World → Prop, Shut (∀ a w, ((l.setIfInBounds i true).getD s true = false → S w) → AnyT P md ops Q S s f (l.setIfInBounds i true) a w → K' a w) → if Region.wanted o (yielded ops a.tmps) = true then Oper.wp P o a w K' Q else K' (a.put o.dst undef) w)
  (hs : AllT P md ops Q S s f l a w rs) : AllT P md ops Q S s f l a w (i :: rs) := AllT.cons (ofDrop ho) h hs
/-- s has come up: S need not be shown. -/
theorem past {l : Array Bool} {p : Prop} (h : l.getD s true = true) : l.getD s true = false → p := fun h' => by rw [h] at h'; cases h'
end
end Go.Proofs.RegT

namespace Go.Proofs.Ytelgpkbnahgdoaa.Al
open Go.RowKit Go.Proofs.RegT Go.Proofs.Ytelgpkbnahgdoaa.Base Go.Proofs.Ytelgpkbnahgdoaa.LetSpec Go.Proofs.YtelgpkbnahgdoaaW.PrintWords Go.Proofs.YtelgpkbnahgdoaaW.PrintLast Go.Proofs.YtelgpkbnahgdoaaW.PrintMore
set_option linter.unusedVariables false
set_option linter.unusedSimpArgs false
def flagsOf (l : List S49) : List Int := l.map fun x => if x.f2 = true then 1 else 0
def pairsOf (l : List S49) : List ByteArray := (l.map fun x => [x.f0, x.f1]).flatten
def letter_Encode.f (k : Nat) (a0_0 : Int) (a0_1 : Int) (a0_2 : Int) (a0_3 : Int) (a0_4 : Int) (a0_5 : Int) (a0_6 : ByteArray) (l0_7 : List ByteArray) (l0_8 : List (S49)) : Option (ByteArray × Int) :=
 (letter_Check.f a0_0 a0_1 a0_2 a0_3 a0_4 a0_5 a0_6 l0_7 l0_8).bind fun t => if t = 0 then (if l0_7.length ≤ 1000000 ∧ l0_8.length ≤ 1000000 then pack_Encode.f k ([a0_0, a0_1, a0_2, a0_3, a0_4, a0_5, (l0_7.length : Int)] ++ flagsOf l0_8) ([a0_6] ++ l0_7 ++ pairsOf l0_8) else none) else some ((⟨#[]⟩ : ByteArray), t)
theorem letter_Encode.mono : ∀ a0_0 a0_1 a0_2 a0_3 a0_4 a0_5 a0_6 l0_7 l0_8 k, LeO (letter_Encode.f k a0_0 a0_1 a0_2 a0_3 a0_4 a0_5 a0_6 l0_7 l0_8) (letter_Encode.f (k + 1) a0_0 a0_1 a0_2 a0_3 a0_4 a0_5 a0_6 l0_7 l0_8) := by
 intro a0_0 a0_1 a0_2 a0_3 a0_4 a0_5 a0_6 l0_7 l0_8 k
 unfold letter_Encode.f
 refine LeO.bind (LeO.refl _) (fun t => LeO.ite (LeO.ite (pack_Encode.mono _ _ _) (LeO.none _)) (LeO.refl _))
/-- The pack under way: the letter's block gl, the pack's block gp, its slices. -/
structure PE (w0 W : World) (gl : Nat) (cs : Array Value) (gp : Nat) (xs : List Int) (ts : List ByteArray) (vN vT : Value) : Prop where
 bl : W.heap[gl]? = some (.cells cs 25 (0, 0))
 bp : W.heap[gp]? = some (.cells #[vN, vT] 47 (0, 0))
 gep : w0.heap.size ≤ gp
 ns : (Kd.int .i64).R 3 W w0.heap.size (fun _ => True) vN xs
 ts : Kd.string.R 9 W w0.heap.size (fun _ => True) vT ts
 bel : Below w0.heap.size w0 W
theorem blkFar {W : World} {g : Nat} {o : Obj} (h : W.heap[g]? = some o) (p : Addr) (hne : g ≠ p.block) (u : Value) : (W.setCell p u).heap[g]? = some o := (Below.heap_setCell W p u g hne).trans h
theorem blkNe {W : World} {g g' t t' : Nat} {cs cs' : Array Value} (h : W.heap[g]? = some (.cells cs t (0, 0))) (h' : W.heap[g']? = some (.cells cs' t' (0, 0))) (ht : t ≠ t') : g ≠ g' := by
 rintro rfl
 rw [h] at h'
 injection h' with h'
 injection h' with _ h'
 exact ht h'
section
variable {w0 W : World} {gl gp : Nat} {cs : Array Value} {xs : List Int} {ts : List ByteArray} {vN vT : Value}
theorem PE.below {W1 : World} (h : PE w0 W gl cs gp xs ts vN vT) (hb : Below W.heap.size W W1) : PE w0 W1 gl cs gp xs ts vN vT where
 bl := blk_below h.bl hb
 bp := blk_below h.bp hb
 gep := h.gep
 ns := Kd.R_below h.ns hb
 ts := Kd.R_below h.ts hb
 bel := below_step h.bel hb
theorem PE.set (h : PE w0 W gl cs gp xs ts vN vT) {g : Nat} {cs' : Array Value} (hq : W.heap[g]? = some (.cells cs' 49 (0, 0))) (hge : w0.heap.size ≤ g) (j : Nat) (u : Value) : PE w0 (W.setCell ⟨g, j, none⟩ u) gl cs gp xs ts vN vT where
 bl := blkFar h.bl _ (blkNe h.bl hq (by decide)) u
 bp := blkFar h.bp _ (blkNe h.bp hq (by decide)) u
 gep := h.gep
 ns := Kd.R_set h.ns hq (by decide) j u
 ts := Kd.R_set h.ts hq (by decide) j u
 bel := below_set h.bel hge
theorem PE.drew (h : PE w0 W gl cs gp xs ts vN vT) : PE w0 W.drew gl cs gp xs ts vN vT := h.below (below_drew (Below.refl _ _))
/-- The new slices are stored. -/
theorem PE.of {w3 : World} {vN' vT' : Value} (hl : w3.heap[gl]? = some (.cells cs 25 (0, 0))) (hb : Below w0.heap.size w0 w3) (hn : (Kd.int .i64).R 3 w3 w0.heap.size (fun _ => True) vN xs) (ht : Kd.string.R 9 w3 w0.heap.size (fun _ => True) vT ts) (hq : w3.heap[gp]? = some (.cells #[vN', vT'] 47 (0, 0))) (hge : w0.heap.size ≤ gp) : PE w0 ((w3.setCell ⟨gp, 0, none⟩ vN).setCell ⟨gp, 1, none⟩ vT) gl cs gp xs ts vN vT where
 bl := blkFar (blkFar hl _ (blkNe hl hq (by decide)) _) _ (blkNe hl hq (by decide)) _
 bp := by simpa using blk_set (blk_set hq 0 vN) 1 vT
 gep := hge
 ns := Kd.R_set (Kd.R_set hn hq (by decide) 0 vN) (by simpa using blk_set hq 0 vN) (by decide) 1 vT
 ts := Kd.R_set (Kd.R_set ht hq (by decide) 0 vN) (by simpa using blk_set hq 0 vN) (by decide) 1 vT
 bel := below_set (below_set hb hge) hge
theorem round_less {n i : Nat} {x : Int} (hx : x = (i : Int)) (h : i < n) : n - (intOf (.int .i64 (x + 1))).toNat < n - (intOf (.int .i64 x)).toNat := by simp [intOf]; omega
theorem pairs_len (l : List S49) : (pairsOf l).length = 2 * l.length := by
 unfold pairsOf
 induction l with
 |nil => rfl
 |cons x l ih => simp only [List.map_cons, List.flatten_cons, List.length_append, List.length_cons, List.length_nil]; omega
theorem flags_step {l : List S49} {i : Nat} (h : i < l.length) : flagsOf (l.take (i + 1)) = flagsOf (l.take i) ++ [if l[i].f2 = true then 1 else 0] := by unfold flagsOf; rw [List.take_succ_eq_append_getElem h, List.map_append]; rfl
theorem pairs_step {l : List S49} {i : Nat} (h : i < l.length) : pairsOf (l.take (i + 1)) = pairsOf (l.take i) ++ [l[i].f0, l[i].f1] := by unfold pairsOf; rw [List.take_succ_eq_append_getElem h, List.map_append, List.flatten_append]; simp only [List.map_cons, List.map_nil, List.flatten_cons, List.flatten_nil, List.append_nil]
end
theorem reps_ints (W : World) (base : Nat) (ok : Nat → Prop) (l : List Int) : Reps ((Kd.int .i64).M W base ok) 1 l (l.map (Value.int .i64)) :=
 ⟨by simp, fun j p hj => by
  have h : (l.map (Value.int .i64))[j]? = some (.int .i64 p) := by rw [List.getElem?_map, hj]; rfl
  obtain ⟨h1, h2⟩ := List.getElem?_eq_some_iff.1 h
  show (List.drop (j * 1) _).take 1 = [Value.int .i64 p]
  rw [Nat.mul_one, List.drop_eq_getElem_cons h1, h2]
  rfl⟩
theorem reps_texts (W : World) (base : Nat) (ok : Nat → Prop) (l : List ByteArray) : Reps (Kd.string.M W base ok) 1 l (l.map Value.string) :=
 ⟨by simp, fun j p hj => by
  have h : (l.map Value.string)[j]? = some (.string p) := by rw [List.getElem?_map, hj]; rfl
  obtain ⟨h1, h2⟩ := List.getElem?_eq_some_iff.1 h
  show (List.drop (j * 1) _).take 1 = [Value.string p]
  rw [Nat.mul_one, List.drop_eq_getElem_cons h1, h2]
  rfl⟩
theorem step_alloc {P : Program} {ops : Array Oper} {o : Oper} {a : Act} {W : World} {Q : Exit → Act → World → Prop} {Kc : Act → World → Prop} {ob : Obj} (hw : Region.wanted o (yielded ops a.tmps) = true) (hrun : (execOp a.eval o).run P W = .ok (.value (.pointer (some ⟨W.heap.size, 0, none⟩))) (W.alloc ob))
  (h : ∀ w1 gz, w1.heap[gz]? = some ob → W.heap.size ≤ gz → Below W.heap.size W w1 → Kc (a.put o.dst (.pointer (some ⟨gz, 0, none⟩))) w1) : if Region.wanted o (yielded ops a.tmps) = true then Oper.wp P o a W Kc Q else Kc (a.put o.dst undef) W :=
 event_step hw hrun (h (W.alloc ob) W.heap.size (blk_new _ _) (Nat.le_refl _) (below_alloc (Below.refl _ _) _))
theorem keep8 {W : World} {gl : Nat} {b0 b1 b2 b3 b4 b5 : Int} {t : ByteArray} {A7 A8 : Option Addr} {n7 c7 n8 c8 : Nat} (h : W.heap[gl]? = some (.cells #[.int .i64 b0, .int .i64 b1, .int .i64 b2, .int .i64 b3, .int .i64 b4, .int .i64 b5, .string t, .slice A7 n7 c7, .slice A8 n8 c8] 25 (0, 0))) : W.cell? ⟨gl, 0, none⟩ = some (.int .i64 b0) ∧ W.cell? ⟨gl, 1, none⟩ = some (.int .i64 b1) ∧ W.cell? ⟨gl, 2, none⟩ = some (.int .i64 b2) ∧ W.cell? ⟨gl, 3, none⟩ = some (.int .i64 b3) ∧ W.cell? ⟨gl, 4, none⟩ = some (.int .i64 b4) ∧ W.cell? ⟨gl, 5, none⟩ = some (.int .i64 b5) ∧ W.cell? ⟨gl, 6, none⟩ = some (.string t) ∧ W.cell? ⟨gl, 7, none⟩ = some (.slice A7 n7 c7) :=
 ⟨(blk_cell h 0).trans rfl, (blk_cell h 1).trans rfl, (blk_cell h 2).trans rfl, (blk_cell h 3).trans rfl, (blk_cell h 4).trans rfl, (blk_cell h 5).trans rfl, (blk_cell h 6).trans rfl, (blk_cell h 7).trans rfl⟩
set_option maxHeartbeats 8000000 in
set_option maxRecDepth 100000 in
theorem letter_Encode.calls (k : Nat) (a0_0 : Int) (a0_1 : Int) (a0_2 : Int) (a0_3 : Int) (a0_4 : Int) (a0_5 : Int) (a0_6 : ByteArray) (A0_7 : Option Addr) (c0_7 : Nat) (l0_7 : List ByteArray) (A0_8 : Option Addr) (c0_8 : Nat) (l0_8 : List (S49)) (r1 : ByteArray) (r2 : Int) (w : World) (hr0_7 : Kd.C Kd.string w A0_7 l0_7.length l0_7) (hc0_7 : l0_7.length ≤ c0_7) (hr0_8 : Kd.C k49 w A0_8 l0_8.length l0_8) (hc0_8 : l0_8.length ≤ c0_8) (h : letter_Encode.f k a0_0 a0_1 a0_2 a0_3 a0_4 a0_5 a0_6 l0_7 l0_8 = some (r1, r2)) :
  Calls Try.prog 10 #[.agg #[.int .i64 a0_0, .int .i64 a0_1, .int .i64 a0_2, .int .i64 a0_3, .int .i64 a0_4, .int .i64 a0_5, .string a0_6, .slice A0_7 l0_7.length c0_7, .slice A0_8 l0_8.length c0_8]] w fun e w' => e = .returned (.tuple #[.string r1, .int .i64 r2]) ∧ Below w.heap.size w w' := by
 have hu25 := Try.underlying25
 have hu49 := Try.underlying49
 have hu47 := Try.underlying47
 have HR7 := Aside0.mk hr0_7
 have HC7 := Aside0.mk hc0_7
 have HR8 := Aside0.mk hr0_8
 have HC8 := Aside0.mk hc0_8
 clear hr0_7 hc0_7 hr0_8 hc0_8
 have H : ((letter_Check.f a0_0 a0_1 a0_2 a0_3 a0_4 a0_5 a0_6 l0_7 l0_8).bind fun t => if t = 0 then (if l0_7.length ≤ 1000000 ∧ l0_8.length ≤ 1000000 then pack_Encode.f k ([a0_0, a0_1, a0_2, a0_3, a0_4, a0_5, (l0_7.length : Int)] ++ flagsOf l0_8) ([a0_6] ++ l0_7 ++ pairsOf l0_8) else none) else some ((⟨#[]⟩ : ByteArray), t)) = some (r1, r2) := h
 clear h
 replace H := Option.bind_eq_some_iff.mp H
 obtain ⟨t, A20, H⟩ := H
 replace H : (if t = 0 then (if l0_7.length ≤ 1000000 ∧ l0_8.length ≤ 1000000 then pack_Encode.f k ([a0_0, a0_1, a0_2, a0_3, a0_4, a0_5, (l0_7.length : Int)] ++ flagsOf l0_8) ([a0_6] ++ l0_7 ++ pairsOf l0_8) else none) else some ((⟨#[]⟩ : ByteArray), t)) = some (r1, r2) := H
 have A2 := Aside0.mk A20
 clear A20
 by_cases c3 : t = 0
 ·rw [if_pos c3] at H
  subst c3
  by_cases hl : l0_7.length ≤ 1000000 ∧ l0_8.length ≤ 1000000
  ·rw [if_pos hl] at H
   obtain ⟨hl7, hl8⟩ := hl
   have HPK := Aside0.mk H
   clear H
   go_enter Try.func10, Try.ntmps10
   go_wp2_with (first | ((with_reducible refine gate_dst (N := 1) rfl ?_); refine box_event ?hg (N := 1) ?hd (cs := #[.int .i64 a0_0, .int .i64 a0_1, .int .i64 a0_2, .int .i64 a0_3, .int .i64 a0_4, .int .i64 a0_5, .string a0_6, .slice A0_7 l0_7.length c0_7, .slice A0_8 l0_8.length c0_8]) (t := 25) ?hr ?_; (case hd => rfl); (case hg => rfl); (case hr => first | (go_simp; done) | (go_simp; rfl)); intro gl hgl w1 hbox hb; have HB := Aside0.mk hb; have BL := Aside0.mk hbox; clear hgl hb hbox; have hcz_0 : w1.cell? ⟨gl, 0, none⟩ = some (.int .i64 a0_0) := (blk_cell BL.out 0).trans rfl; have hcz_1 : w1.cell? ⟨gl, 1, none⟩ = some (.int .i64 a0_1) := (blk_cell BL.out 1).trans rfl; have hcz_2 : w1.cell? ⟨gl, 2, none⟩ = some (.int .i64 a0_2) := (blk_cell BL.out 2).trans rfl; have hcz_3 : w1.cell? ⟨gl, 3, none⟩ = some (.int .i64 a0_3) := (blk_cell BL.out 3).trans rfl; have hcz_4 : w1.cell? ⟨gl, 4, none⟩ = some (.int .i64 a0_4) := (blk_cell BL.out 4).trans rfl; have hcz_5 : w1.cell? ⟨gl, 5, none⟩ = some (.int .i64 a0_5) := (blk_cell BL.out 5).trans rfl; have hcz_6 : w1.cell? ⟨gl, 6, none⟩ = some (.string a0_6) := (blk_cell BL.out 6).trans rfl; have hcz_7 : w1.cell? ⟨gl, 7, none⟩ = some (.slice A0_7 l0_7.length c0_7) := (blk_cell BL.out 7).trans rfl; have hcz_8 : w1.cell? ⟨gl, 8, none⟩ = some (.slice A0_8 l0_8.length c0_8) := (blk_cell BL.out 8).trans rfl) | (go_at_call 13; refine (letter_Check.calls a0_0 a0_1 a0_2 a0_3 a0_4 a0_5 a0_6 _ _ l0_7 _ _ l0_8 _ _ (Kd.C_below HR7.out HB.out) HC7.out (Kd.C_below HR8.out HB.out) HC8.out A2.out).mono ?_; rintro e w2 ⟨rfl, hb⟩; have HB2 := Aside0.mk (below_step HB.out hb); have BL2 := Aside0.mk (blk_below BL.out hb); clear hb))
   clear hcz_0 hcz_1 hcz_2 hcz_3 hcz_4 hcz_5 hcz_6 hcz_7 hcz_8 HB BL
   have HB := Aside0.mk (below_drew HB2.out)
   have HL := Aside0.mk (blk_drew BL2.out)
   go_cut [5] from 9 (fun v5 wc => ∃ (gp : Nat) (vN vT : Value), v5 = .pointer (some ⟨gp, 0, none⟩) ∧ Aside0 (PE w wc gl #[.int .i64 a0_0, .int .i64 a0_1, .int .i64 a0_2, .int .i64 a0_3, .int .i64 a0_4, .int .i64 a0_5, .string a0_6, .slice A0_7 l0_7.length c0_7, .slice A0_8 l0_8.length c0_8] gp [a0_0, a0_1, a0_2, a0_3, a0_4, a0_5, (l0_7.length : Int)] ([a0_6] ++ l0_7) vN vT))
   case first =>
    refine wp_region_noPanic ?_
    refine rt_begin (S := (fun W => W.heap[gl]? = some (Obj.cells #[.int .i64 a0_0, .int .i64 a0_1, .int .i64 a0_2, .int .i64 a0_3, .int .i64 a0_4, .int .i64 a0_5, .string a0_6, .slice A0_7 l0_7.length c0_7, .slice A0_8 l0_8.length c0_8] 25 (0, 0)))) (s := 24) (by kernel_rfl) ?_
    refine AnyT.taken (i := 0) (v := ?v1) rfl (by kernel_rfl) (by kernel_rfl) (by kernel_rfl) (by kernel_rfl) (fun _ _ _ h => h) (Or.inl ⟨by rfl, ?y1⟩) ?s1 ?_
    case y1 =>
     intro wSW hSW
     (obtain ⟨k0, k1, k2, k3, k4, k5, k6, k7⟩ := keep8 hSW; go_simp)
     all_goals with_reducible rfl
    case s1 => exact HL.out
    try simp only [Act.put, List.setIfInBounds_toArray, List.set_cons_zero, List.set_cons_succ]
    refine AnyT.taken (i := 1) (v := ?v2) rfl (by kernel_rfl) (by kernel_rfl) (by kernel_rfl) (by kernel_rfl) (fun _ _ _ h => h) (Or.inl ⟨by rfl, ?y2⟩) ?s2 ?_
    case y2 =>
     intro wSW hSW
     (obtain ⟨k0, k1, k2, k3, k4, k5, k6, k7⟩ := keep8 hSW; go_simp)
     all_goals with_reducible rfl
    case s2 => exact HL.out
    try simp only [Act.put, List.setIfInBounds_toArray, List.set_cons_zero, List.set_cons_succ]
    refine AnyT.taken (i := 2) (v := ?v3) rfl (by kernel_rfl) (by kernel_rfl) (by kernel_rfl) (by kernel_rfl) (fun _ _ _ h => h) (Or.inl ⟨by rfl, ?y3⟩) ?s3 ?_
    case y3 =>
     intro wSW hSW
     (obtain ⟨k0, k1, k2, k3, k4, k5, k6, k7⟩ := keep8 hSW; go_simp)
     all_goals with_reducible rfl
    case s3 => exact HL.out
    try simp only [Act.put, List.setIfInBounds_toArray, List.set_cons_zero, List.set_cons_succ]
    refine AnyT.taken (i := 3) (v := ?v4) rfl (by kernel_rfl) (by kernel_rfl) (by kernel_rfl) (by kernel_rfl) (fun _ _ _ h => h) (Or.inl ⟨by rfl, ?y4⟩) ?s4 ?_
    case y4 =>
     intro wSW hSW
     (obtain ⟨k0, k1, k2, k3, k4, k5, k6, k7⟩ := keep8 hSW; go_simp)
     all_goals with_reducible rfl
    case s4 => exact HL.out
    try simp only [Act.put, List.setIfInBounds_toArray, List.set_cons_zero, List.set_cons_succ]
    refine AnyT.taken (i := 4) (v := ?v5) rfl (by kernel_rfl) (by kernel_rfl) (by kernel_rfl) (by kernel_rfl) (fun _ _ _ h => h) (Or.inl ⟨by rfl, ?y5⟩) ?s5 ?_
    case y5 =>
     intro wSW hSW
     (obtain ⟨k0, k1, k2, k3, k4, k5, k6, k7⟩ := keep8 hSW; go_simp)
     all_goals with_reducible rfl
    case s5 => exact HL.out
    try simp only [Act.put, List.setIfInBounds_toArray, List.set_cons_zero, List.set_cons_succ]
    refine AnyT.taken (i := 5) (v := ?v6) rfl (by kernel_rfl) (by kernel_rfl) (by kernel_rfl) (by kernel_rfl) (fun _ _ _ h => h) (Or.inl ⟨by rfl, ?y6⟩) ?s6 ?_
    case y6 =>
     intro wSW hSW
     (obtain ⟨k0, k1, k2, k3, k4, k5, k6, k7⟩ := keep8 hSW; go_simp)
     all_goals with_reducible rfl
    case s6 => exact HL.out
    try simp only [Act.put, List.setIfInBounds_toArray, List.set_cons_zero, List.set_cons_succ]
    refine AnyT.taken (i := 6) (v := ?v7) rfl (by kernel_rfl) (by kernel_rfl) (by kernel_rfl) (by kernel_rfl) (fun _ _ _ h => h) (Or.inl ⟨by rfl, ?y7⟩) ?s7 ?_
    case y7 =>
     intro wSW hSW
     (obtain ⟨k0, k1, k2, k3, k4, k5, k6, k7⟩ := keep8 hSW; go_simp)
     all_goals with_reducible rfl
    case s7 => exact HL.out
    try simp only [Act.put, List.setIfInBounds_toArray, List.set_cons_zero, List.set_cons_succ]
    refine AnyT.taken (i := 7) (v := ?v8) rfl (by kernel_rfl) (by kernel_rfl) (by kernel_rfl) (by kernel_rfl) (fun _ _ _ h => h) (Or.inl ⟨by rfl, ?y8⟩) ?s8 ?_
    case y8 =>
     intro wSW hSW
     (obtain ⟨k0, k1, k2, k3, k4, k5, k6, k7⟩ := keep8 hSW; go_simp)
     all_goals with_reducible rfl
    case s8 => exact HL.out
    try simp only [Act.put, List.setIfInBounds_toArray, List.set_cons_zero, List.set_cons_succ]
    refine AnyT.taken (i := 8) (v := ?v9) rfl (by kernel_rfl) (by kernel_rfl) (by kernel_rfl) (by kernel_rfl) (fun _ _ _ h => h) (Or.inl ⟨by rfl, ?y9⟩) ?s9 ?_
    case y9 =>
     intro wSW hSW
     (obtain ⟨k0, k1, k2, k3, k4, k5, k6, k7⟩ := keep8 hSW; go_simp)
     all_goals with_reducible rfl
    case s9 => exact HL.out
    try simp only [Act.put, List.setIfInBounds_toArray, List.set_cons_zero, List.set_cons_succ]
    refine AnyT.taken (i := 9) (v := ?v10) rfl (by kernel_rfl) (by kernel_rfl) (by kernel_rfl) (by kernel_rfl) (fun _ _ _ h => h) (Or.inl ⟨by rfl, ?y10⟩) ?s10 ?_
    case y10 =>
     intro wSW hSW
     (obtain ⟨k0, k1, k2, k3, k4, k5, k6, k7⟩ := keep8 hSW; go_simp)
     all_goals with_reducible rfl
    case s10 => exact HL.out
    try simp only [Act.put, List.setIfInBounds_toArray, List.set_cons_zero, List.set_cons_succ]
    refine AnyT.taken (i := 10) (v := ?v11) rfl (by kernel_rfl) (by kernel_rfl) (by kernel_rfl) (by kernel_rfl) (fun _ _ _ h => h) (Or.inl ⟨by rfl, ?y11⟩) ?s11 ?_
    case y11 =>
     intro wSW hSW
     (obtain ⟨k0, k1, k2, k3, k4, k5, k6, k7⟩ := keep8 hSW; go_simp)
     all_goals with_reducible rfl
    case s11 => exact HL.out
    try simp only [Act.put, List.setIfInBounds_toArray, List.set_cons_zero, List.set_cons_succ]
    refine AnyT.taken (i := 11) (v := ?v12) rfl (by kernel_rfl) (by kernel_rfl) (by kernel_rfl) (by kernel_rfl) (fun _ _ _ h => h) (Or.inl ⟨by rfl, ?y12⟩) ?s12 ?_
    case y12 =>
     intro wSW hSW
     (obtain ⟨k0, k1, k2, k3, k4, k5, k6, k7⟩ := keep8 hSW; go_simp)
     all_goals with_reducible rfl
    case s12 => exact HL.out
    try simp only [Act.put, List.setIfInBounds_toArray, List.set_cons_zero, List.set_cons_succ]
    refine AnyT.taken (i := 12) (v := ?v13) rfl (by kernel_rfl) (by kernel_rfl) (by kernel_rfl) (by kernel_rfl) (fun _ _ _ h => h) (Or.inl ⟨by rfl, ?y13⟩) ?s13 ?_
    case y13 =>
     intro wSW hSW
     (obtain ⟨k0, k1, k2, k3, k4, k5, k6, k7⟩ := keep8 hSW; go_simp)
     all_goals with_reducible rfl
    case s13 => exact HL.out
    try simp only [Act.put, List.setIfInBounds_toArray, List.set_cons_zero, List.set_cons_succ]
    refine AnyT.taken (i := 13) (v := ?v14) rfl (by kernel_rfl) (by kernel_rfl) (by kernel_rfl) (by kernel_rfl) (fun _ _ _ h => h) (Or.inl ⟨by rfl, ?y14⟩) ?s14 ?_
    case y14 =>
     intro wSW hSW
     (obtain ⟨k0, k1, k2, k3, k4, k5, k6, k7⟩ := keep8 hSW; go_simp)
     all_goals with_reducible rfl
    case s14 => exact HL.out
    try simp only [Act.put, List.setIfInBounds_toArray, List.set_cons_zero, List.set_cons_succ]
    refine AnyT.taken (i := 14) (v := ?v15) rfl (by kernel_rfl) (by kernel_rfl) (by kernel_rfl) (by kernel_rfl) (fun _ _ _ h => h) (Or.inl ⟨by rfl, ?y15⟩) ?s15 ?_
    case y15 =>
     intro wSW hSW
     (obtain ⟨k0, k1, k2, k3, k4, k5, k6, k7⟩ := keep8 hSW; go_simp)
     all_goals with_reducible rfl
    case s15 => exact HL.out
    try simp only [Act.put, List.setIfInBounds_toArray, List.set_cons_zero, List.set_cons_succ]
    refine AnyT.taken (i := 16) (v := ?v16) rfl (by kernel_rfl) (by kernel_rfl) (by kernel_rfl) (by kernel_rfl) (fun _ _ _ h => h) (Or.inl ⟨by rfl, ?y16⟩) ?s16 ?_
    case y16 =>
     intro wSW hSW
     (obtain ⟨k0, k1, k2, k3, k4, k5, k6, k7⟩ := keep8 hSW; go_simp)
     all_goals with_reducible rfl
    case s16 => exact HL.out
    try simp only [Act.put, List.setIfInBounds_toArray, List.set_cons_zero, List.set_cons_succ]
    refine AnyT.taken (i := 17) (v := ?v17) rfl (by kernel_rfl) (by kernel_rfl) (by kernel_rfl) (by kernel_rfl) (fun _ _ _ h => h) (Or.inl ⟨by rfl, ?y17⟩) ?s17 ?_
    case y17 =>
     intro wSW hSW
     (obtain ⟨k0, k1, k2, k3, k4, k5, k6, k7⟩ := keep8 hSW; go_simp)
     all_goals with_reducible rfl
    case s17 => exact HL.out
    try simp only [Act.put, List.setIfInBounds_toArray, List.set_cons_zero, List.set_cons_succ]
    refine AnyT.taken (i := 19) (v := ?v18) rfl (by kernel_rfl) (by kernel_rfl) (by kernel_rfl) (by kernel_rfl) (fun _ _ _ h => h) (Or.inl ⟨by rfl, ?y18⟩) ?s18 ?_
    case y18 =>
     intro wSW hSW
     (obtain ⟨k0, k1, k2, k3, k4, k5, k6, k7⟩ := keep8 hSW; go_simp)
     all_goals with_reducible rfl
    case s18 => exact HL.out
    try simp only [Act.put, List.setIfInBounds_toArray, List.set_cons_zero, List.set_cons_succ]
    refine AnyT.taken (i := 20) (v := ?v19) rfl (by kernel_rfl) (by kernel_rfl) (by kernel_rfl) (by kernel_rfl) (fun _ _ _ h => h) (Or.inl ⟨by rfl, ?y19⟩) ?s19 ?_
    case y19 =>
     intro wSW hSW
     (obtain ⟨k0, k1, k2, k3, k4, k5, k6, k7⟩ := keep8 hSW; go_simp)
     all_goals with_reducible rfl
    case s19 => exact HL.out
    try simp only [Act.put, List.setIfInBounds_toArray, List.set_cons_zero, List.set_cons_succ]
    refine AnyT.ready (rs := [15, 18, 23]) (by kernel_rfl) (by simp) (AllT.step rfl (fun K hK => ?b2015) (AllT.step rfl (fun K hK => ?b2018) (AllT.step rfl (fun K hK => ?b2023) AllT.nil)))
    case b2015 =>
     (refine Kd.R_lit_step (Kd.int .i64) (w0 := w) w.heap.size 3 (by rfl) (N := 29) (by rfl) (xs := [a0_0, a0_1, a0_2, a0_3, a0_4, a0_5, (l0_7.length : Int)]) (inner := [.int .i64 a0_0, .int .i64 a0_1, .int .i64 a0_2, .int .i64 a0_3, .int .i64 a0_4, .int .i64 a0_5, .int .i64 (l0_7.length : Int)]) (ok := fun _ => True) (okp := fun _ => True) ?hr (reps_ints _ _ _ [a0_0, a0_1, a0_2, a0_3, a0_4, a0_5, (l0_7.length : Int)]) (fun _ h => h) trivial HB.out HB.out.size (by simp) ?_; (case hr => first | (go_simp; done) | (go_simp; rfl)); intro vx w9 ho hb hg hat; (try replace FN := Aside0.mk (Kd.R_grown FN.out hg (fun _ _ => by simp))); (try replace FT := Aside0.mk (Kd.R_grown FT.out hg (fun _ _ => by simp))); (try replace FZ := Aside0.mk (blk_grown FZ.out hg (by simp))); replace HL := Aside0.mk (blk_grown HL.out hg (by simp)); replace HB := Aside0.mk hb; obtain ⟨A29, c29, e9⟩ := Kd.R_slice ho; subst e9; have FN := Aside0.mk ho; clear ho hb hg hat)
     refine hK.out _ _ ?_ ?_
     ·intro _; exact HL.out
     clear hK K
     try simp only [Act.put, List.setIfInBounds_toArray, List.set_cons_zero, List.set_cons_succ]
     refine AnyT.ready (rs := [18, 23]) (by kernel_rfl) (by simp) (AllT.step rfl (fun K hK => ?b2218) (AllT.step rfl (fun K hK => ?b2223) AllT.nil))
     case b2218 =>
      (refine Kd.R_lit_step Kd.string (w0 := w) w.heap.size 9 (by rfl) (N := 32) (by rfl) (xs := [a0_6]) (inner := [.string a0_6]) (ok := fun _ => True) (okp := fun _ => True) ?hr (reps_texts _ _ _ [a0_6]) (fun _ h => h) trivial HB.out HB.out.size (by simp) ?_; (case hr => first | (go_simp; done) | (go_simp; rfl)); intro vx w9 ho hb hg hat; (try replace FN := Aside0.mk (Kd.R_grown FN.out hg (fun _ _ => by simp))); (try replace FT := Aside0.mk (Kd.R_grown FT.out hg (fun _ _ => by simp))); (try replace FZ := Aside0.mk (blk_grown FZ.out hg (by simp))); replace HL := Aside0.mk (blk_grown HL.out hg (by simp)); replace HB := Aside0.mk hb; obtain ⟨A32, c32, e9⟩ := Kd.R_slice ho; subst e9; have FT := Aside0.mk ho; clear ho hb hg hat)
      refine hK.out _ _ ?_ ?_
      ·intro _; exact HL.out
      clear hK K
      try simp only [Act.put, List.setIfInBounds_toArray, List.set_cons_zero, List.set_cons_succ]
      refine AnyT.ready (rs := [21, 23]) (by kernel_rfl) (by simp) (AllT.step rfl (fun K hK => ?b2421) (AllT.step rfl (fun K hK => ?b2423) AllT.nil))
      case b2421 =>
       (refine Kd.R_append_rows_step Kd.string (w0 := w) w.heap.size (by rfl) (.tmp 32) (.tmp 34) 22 9 (.string ⟨#[]⟩) 16 (by rfl) Try.underlying22 info9 rfl (by decide) (by omega) (.slice A32 1 c32) [a0_6] l0_7 _ _ _ (fun _ => True) (fun _ => False) (by rfl) (by rfl) FT.out (Kd.C_below HR7.out HB.out) (fun _ _ h => h) (fun _ h => h.elim) (fun _ _ => trivial) HB.out HB.out.size (by simp only [List.length_cons, List.length_nil]; omega) ?_; intro vx w9 ho hb hg hat; (try replace FN := Aside0.mk (Kd.R_over FN.out FT.out (by decide) hg)); (try replace FZ := Aside0.mk (blk_grown FZ.out hg (Kd.R_ne FT.out FZ.out (by decide)))); replace HL := Aside0.mk (blk_grown HL.out hg (Kd.R_ne FT.out HL.out (by decide))); replace HB := Aside0.mk hb; obtain ⟨A35, c35, e9⟩ := Kd.R_slice ho; subst e9; replace FT := Aside0.mk ho; clear ho hb hg hat)
       refine hK.out _ _ ?_ ?_
       ·intro _; exact HL.out
       clear hK K
       try simp only [Act.put, List.setIfInBounds_toArray, List.set_cons_zero, List.set_cons_succ]
       refine AnyT.taken (i := 22) (v := ?v26) rfl (by kernel_rfl) (by kernel_rfl) (by kernel_rfl) (by kernel_rfl) (fun _ _ _ h => h) (Or.inl ⟨by rfl, ?y26⟩) ?s26 ?_
       case y26 =>
        intro wSW hSW
        (obtain ⟨k0, k1, k2, k3, k4, k5, k6, k7⟩ := keep8 hSW; go_simp)
        all_goals with_reducible rfl
       case s26 => exact HL.out
       try simp only [Act.put, List.setIfInBounds_toArray, List.set_cons_zero, List.set_cons_succ]
       refine AnyT.ready (rs := [23]) (by kernel_rfl) (by simp) (AllT.step rfl (fun K hK => ?b2723) AllT.nil)
       case b2723 =>
        (refine step_alloc (ob := .cells #[.slice none 0 0, .slice none 0 0] 47) (by rfl) ?hr ?_; (case hr => first | (go_simp; done) | (go_simp; rfl)); intro w9 gz hq hge hb; have FG : Aside0 (w.heap.size ≤ gz) := ⟨Nat.le_trans HB.out.size hge⟩; (try replace FN := Aside0.mk (Kd.R_below FN.out hb)); (try replace FT := Aside0.mk (Kd.R_below FT.out hb)); (try replace FZ := Aside0.mk (blk_below FZ.out hb)); replace HL := Aside0.mk (blk_below HL.out hb); replace HB := Aside0.mk (below_step HB.out hb); have FZ := Aside0.mk hq; clear hq hge hb)
        refine hK.out _ _ ?_ ?_
        ·intro _; exact HL.out
        clear hK K
        try simp only [Act.put, List.setIfInBounds_toArray, List.set_cons_zero, List.set_cons_succ]
        refine AnyT.ready (rs := [24]) (by kernel_rfl) (by simp) (AllT.step rfl (fun K hK => ?b2924) AllT.nil)
        case b2924 =>
         (have hs0 := (blk_cell FZ.out 0).trans rfl; have hs1 := (blk_cell FZ.out 1).trans rfl; have hf0 := blk_frozen FZ.out 0; have hf1 := blk_frozen FZ.out 1; go_simp)
         refine hK.out _ _ ?_ ?_
         ·exact past (by kernel_rfl)
         clear hK K
         try simp only [Act.put, List.setIfInBounds_toArray, List.set_cons_zero, List.set_cons_succ]
         refine AnyT.done (by kernel_rfl) ?_ _
         refine NoPanic.normal ?_
         (go_wp2; go_meet)
         (case rel => exact ⟨gz, .slice A29 7 c29, .slice A35 (l0_7.length + 1) c35, rfl, ⟨PE.of (vN' := .slice none 0 0) (vT' := .slice none 0 0) HL.out HB.out FN.out FT.out FZ.out FG.out⟩⟩)
      case b2423 =>
       (refine step_alloc (ob := .cells #[.slice none 0 0, .slice none 0 0] 47) (by rfl) ?hr ?_; (case hr => first | (go_simp; done) | (go_simp; rfl)); intro w9 gz hq hge hb; have FG : Aside0 (w.heap.size ≤ gz) := ⟨Nat.le_trans HB.out.size hge⟩; (try replace FN := Aside0.mk (Kd.R_below FN.out hb)); (try replace FT := Aside0.mk (Kd.R_below FT.out hb)); (try replace FZ := Aside0.mk (blk_below FZ.out hb)); replace HL := Aside0.mk (blk_below HL.out hb); replace HB := Aside0.mk (below_step HB.out hb); have FZ := Aside0.mk hq; clear hq hge hb)
       refine hK.out _ _ ?_ ?_
       ·intro _; exact HL.out
       clear hK K
       try simp only [Act.put, List.setIfInBounds_toArray, List.set_cons_zero, List.set_cons_succ]
       refine AnyT.ready (rs := [21]) (by kernel_rfl) (by simp) (AllT.step rfl (fun K hK => ?b3321) AllT.nil)
       case b3321 =>
        (refine Kd.R_append_rows_step Kd.string (w0 := w) w.heap.size (by rfl) (.tmp 32) (.tmp 34) 22 9 (.string ⟨#[]⟩) 16 (by rfl) Try.underlying22 info9 rfl (by decide) (by omega) (.slice A32 1 c32) [a0_6] l0_7 _ _ _ (fun _ => True) (fun _ => False) (by rfl) (by rfl) FT.out (Kd.C_below HR7.out HB.out) (fun _ _ h => h) (fun _ h => h.elim) (fun _ _ => trivial) HB.out HB.out.size (by simp only [List.length_cons, List.length_nil]; omega) ?_; intro vx w9 ho hb hg hat; (try replace FN := Aside0.mk (Kd.R_over FN.out FT.out (by decide) hg)); (try replace FZ := Aside0.mk (blk_grown FZ.out hg (Kd.R_ne FT.out FZ.out (by decide)))); replace HL := Aside0.mk (blk_grown HL.out hg (Kd.R_ne FT.out HL.out (by decide))); replace HB := Aside0.mk hb; obtain ⟨A35, c35, e9⟩ := Kd.R_slice ho; subst e9; replace FT := Aside0.mk ho; clear ho hb hg hat)
        refine hK.out _ _ ?_ ?_
        ·intro _; exact HL.out
        clear hK K
        try simp only [Act.put, List.setIfInBounds_toArray, List.set_cons_zero, List.set_cons_succ]
        refine AnyT.taken (i := 22) (v := ?v35) rfl (by kernel_rfl) (by kernel_rfl) (by kernel_rfl) (by kernel_rfl) (fun _ _ _ h => h) (Or.inl ⟨by rfl, ?y35⟩) ?s35 ?_
        case y35 =>
         intro wSW hSW
         (obtain ⟨k0, k1, k2, k3, k4, k5, k6, k7⟩ := keep8 hSW; go_simp)
         all_goals with_reducible rfl
        case s35 => exact HL.out
        try simp only [Act.put, List.setIfInBounds_toArray, List.set_cons_zero, List.set_cons_succ]
        refine AnyT.ready (rs := [24]) (by kernel_rfl) (by simp) (AllT.step rfl (fun K hK => ?b3624) AllT.nil)
        case b3624 =>
         (have hs0 := (blk_cell FZ.out 0).trans rfl; have hs1 := (blk_cell FZ.out 1).trans rfl; have hf0 := blk_frozen FZ.out 0; have hf1 := blk_frozen FZ.out 1; go_simp)
         refine hK.out _ _ ?_ ?_
         ·exact past (by kernel_rfl)
         clear hK K
         try simp only [Act.put, List.setIfInBounds_toArray, List.set_cons_zero, List.set_cons_succ]
         refine AnyT.done (by kernel_rfl) ?_ _
         refine NoPanic.normal ?_
         (go_wp2; go_meet)
         (case rel => exact ⟨gz, .slice A29 7 c29, .slice A35 (l0_7.length + 1) c35, rfl, ⟨PE.of (vN' := .slice none 0 0) (vT' := .slice none 0 0) HL.out HB.out FN.out FT.out FZ.out FG.out⟩⟩)
     case b2223 =>
      (refine step_alloc (ob := .cells #[.slice none 0 0, .slice none 0 0] 47) (by rfl) ?hr ?_; (case hr => first | (go_simp; done) | (go_simp; rfl)); intro w9 gz hq hge hb; have FG : Aside0 (w.heap.size ≤ gz) := ⟨Nat.le_trans HB.out.size hge⟩; (try replace FN := Aside0.mk (Kd.R_below FN.out hb)); (try replace FT := Aside0.mk (Kd.R_below FT.out hb)); (try replace FZ := Aside0.mk (blk_below FZ.out hb)); replace HL := Aside0.mk (blk_below HL.out hb); replace HB := Aside0.mk (below_step HB.out hb); have FZ := Aside0.mk hq; clear hq hge hb)
      refine hK.out _ _ ?_ ?_
      ·intro _; exact HL.out
      clear hK K
      try simp only [Act.put, List.setIfInBounds_toArray, List.set_cons_zero, List.set_cons_succ]
      refine AnyT.ready (rs := [18]) (by kernel_rfl) (by simp) (AllT.step rfl (fun K hK => ?b4018) AllT.nil)
      case b4018 =>
       (refine Kd.R_lit_step Kd.string (w0 := w) w.heap.size 9 (by rfl) (N := 32) (by rfl) (xs := [a0_6]) (inner := [.string a0_6]) (ok := fun _ => True) (okp := fun _ => True) ?hr (reps_texts _ _ _ [a0_6]) (fun _ h => h) trivial HB.out HB.out.size (by simp) ?_; (case hr => first | (go_simp; done) | (go_simp; rfl)); intro vx w9 ho hb hg hat; (try replace FN := Aside0.mk (Kd.R_grown FN.out hg (fun _ _ => by simp))); (try replace FT := Aside0.mk (Kd.R_grown FT.out hg (fun _ _ => by simp))); (try replace FZ := Aside0.mk (blk_grown FZ.out hg (by simp))); replace HL := Aside0.mk (blk_grown HL.out hg (by simp)); replace HB := Aside0.mk hb; obtain ⟨A32, c32, e9⟩ := Kd.R_slice ho; subst e9; have FT := Aside0.mk ho; clear ho hb hg hat)
       refine hK.out _ _ ?_ ?_
       ·intro _; exact HL.out
       clear hK K
       try simp only [Act.put, List.setIfInBounds_toArray, List.set_cons_zero, List.set_cons_succ]
       refine AnyT.ready (rs := [21]) (by kernel_rfl) (by simp) (AllT.step rfl (fun K hK => ?b4221) AllT.nil)
       case b4221 =>
        (refine Kd.R_append_rows_step Kd.string (w0 := w) w.heap.size (by rfl) (.tmp 32) (.tmp 34) 22 9 (.string ⟨#[]⟩) 16 (by rfl) Try.underlying22 info9 rfl (by decide) (by omega) (.slice A32 1 c32) [a0_6] l0_7 _ _ _ (fun _ => True) (fun _ => False) (by rfl) (by rfl) FT.out (Kd.C_below HR7.out HB.out) (fun _ _ h => h) (fun _ h => h.elim) (fun _ _ => trivial) HB.out HB.out.size (by simp only [List.length_cons, List.length_nil]; omega) ?_; intro vx w9 ho hb hg hat; (try replace FN := Aside0.mk (Kd.R_over FN.out FT.out (by decide) hg)); (try replace FZ := Aside0.mk (blk_grown FZ.out hg (Kd.R_ne FT.out FZ.out (by decide)))); replace HL := Aside0.mk (blk_grown HL.out hg (Kd.R_ne FT.out HL.out (by decide))); replace HB := Aside0.mk hb; obtain ⟨A35, c35, e9⟩ := Kd.R_slice ho; subst e9; replace FT := Aside0.mk ho; clear ho hb hg hat)
        refine hK.out _ _ ?_ ?_
        ·intro _; exact HL.out
        clear hK K
        try simp only [Act.put, List.setIfInBounds_toArray, List.set_cons_zero, List.set_cons_succ]
        refine AnyT.taken (i := 22) (v := ?v44) rfl (by kernel_rfl) (by kernel_rfl) (by kernel_rfl) (by kernel_rfl) (fun _ _ _ h => h) (Or.inl ⟨by rfl, ?y44⟩) ?s44 ?_
        case y44 =>
         intro wSW hSW
         (obtain ⟨k0, k1, k2, k3, k4, k5, k6, k7⟩ := keep8 hSW; go_simp)
         all_goals with_reducible rfl
        case s44 => exact HL.out
        try simp only [Act.put, List.setIfInBounds_toArray, List.set_cons_zero, List.set_cons_succ]
        refine AnyT.ready (rs := [24]) (by kernel_rfl) (by simp) (AllT.step rfl (fun K hK => ?b4524) AllT.nil)
        case b4524 =>
         (have hs0 := (blk_cell FZ.out 0).trans rfl; have hs1 := (blk_cell FZ.out 1).trans rfl; have hf0 := blk_frozen FZ.out 0; have hf1 := blk_frozen FZ.out 1; go_simp)
         refine hK.out _ _ ?_ ?_
         ·exact past (by kernel_rfl)
         clear hK K
         try simp only [Act.put, List.setIfInBounds_toArray, List.set_cons_zero, List.set_cons_succ]
         refine AnyT.done (by kernel_rfl) ?_ _
         refine NoPanic.normal ?_
         (go_wp2; go_meet)
         (case rel => exact ⟨gz, .slice A29 7 c29, .slice A35 (l0_7.length + 1) c35, rfl, ⟨PE.of (vN' := .slice none 0 0) (vT' := .slice none 0 0) HL.out HB.out FN.out FT.out FZ.out FG.out⟩⟩)
    case b2018 =>
     (refine Kd.R_lit_step Kd.string (w0 := w) w.heap.size 9 (by rfl) (N := 32) (by rfl) (xs := [a0_6]) (inner := [.string a0_6]) (ok := fun _ => True) (okp := fun _ => True) ?hr (reps_texts _ _ _ [a0_6]) (fun _ h => h) trivial HB.out HB.out.size (by simp) ?_; (case hr => first | (go_simp; done) | (go_simp; rfl)); intro vx w9 ho hb hg hat; (try replace FN := Aside0.mk (Kd.R_grown FN.out hg (fun _ _ => by simp))); (try replace FT := Aside0.mk (Kd.R_grown FT.out hg (fun _ _ => by simp))); (try replace FZ := Aside0.mk (blk_grown FZ.out hg (by simp))); replace HL := Aside0.mk (blk_grown HL.out hg (by simp)); replace HB := Aside0.mk hb; obtain ⟨A32, c32, e9⟩ := Kd.R_slice ho; subst e9; have FT := Aside0.mk ho; clear ho hb hg hat)
     refine hK.out _ _ ?_ ?_
     ·intro _; exact HL.out
     clear hK K
     try simp only [Act.put, List.setIfInBounds_toArray, List.set_cons_zero, List.set_cons_succ]
     refine AnyT.ready (rs := [15, 21, 23]) (by kernel_rfl) (by simp) (AllT.step rfl (fun K hK => ?b4915) (AllT.step rfl (fun K hK => ?b4921) (AllT.step rfl (fun K hK => ?b4923) AllT.nil)))
     case b4915 =>
      (refine Kd.R_lit_step (Kd.int .i64) (w0 := w) w.heap.size 3 (by rfl) (N := 29) (by rfl) (xs := [a0_0, a0_1, a0_2, a0_3, a0_4, a0_5, (l0_7.length : Int)]) (inner := [.int .i64 a0_0, .int .i64 a0_1, .int .i64 a0_2, .int .i64 a0_3, .int .i64 a0_4, .int .i64 a0_5, .int .i64 (l0_7.length : Int)]) (ok := fun _ => True) (okp := fun _ => True) ?hr (reps_ints _ _ _ [a0_0, a0_1, a0_2, a0_3, a0_4, a0_5, (l0_7.length : Int)]) (fun _ h => h) trivial HB.out HB.out.size (by simp) ?_; (case hr => first | (go_simp; done) | (go_simp; rfl)); intro vx w9 ho hb hg hat; (try replace FN := Aside0.mk (Kd.R_grown FN.out hg (fun _ _ => by simp))); (try replace FT := Aside0.mk (Kd.R_grown FT.out hg (fun _ _ => by simp))); (try replace FZ := Aside0.mk (blk_grown FZ.out hg (by simp))); replace HL := Aside0.mk (blk_grown HL.out hg (by simp)); replace HB := Aside0.mk hb; obtain ⟨A29, c29, e9⟩ := Kd.R_slice ho; subst e9; have FN := Aside0.mk ho; clear ho hb hg hat)
      refine hK.out _ _ ?_ ?_
      ·intro _; exact HL.out
      clear hK K
      try simp only [Act.put, List.setIfInBounds_toArray, List.set_cons_zero, List.set_cons_succ]
      refine AnyT.ready (rs := [21, 23]) (by kernel_rfl) (by simp) (AllT.step rfl (fun K hK => ?b5121) (AllT.step rfl (fun K hK => ?b5123) AllT.nil))
      case b5121 =>
       (refine Kd.R_append_rows_step Kd.string (w0 := w) w.heap.size (by rfl) (.tmp 32) (.tmp 34) 22 9 (.string ⟨#[]⟩) 16 (by rfl) Try.underlying22 info9 rfl (by decide) (by omega) (.slice A32 1 c32) [a0_6] l0_7 _ _ _ (fun _ => True) (fun _ => False) (by rfl) (by rfl) FT.out (Kd.C_below HR7.out HB.out) (fun _ _ h => h) (fun _ h => h.elim) (fun _ _ => trivial) HB.out HB.out.size (by simp only [List.length_cons, List.length_nil]; omega) ?_; intro vx w9 ho hb hg hat; (try replace FN := Aside0.mk (Kd.R_over FN.out FT.out (by decide) hg)); (try replace FZ := Aside0.mk (blk_grown FZ.out hg (Kd.R_ne FT.out FZ.out (by decide)))); replace HL := Aside0.mk (blk_grown HL.out hg (Kd.R_ne FT.out HL.out (by decide))); replace HB := Aside0.mk hb; obtain ⟨A35, c35, e9⟩ := Kd.R_slice ho; subst e9; replace FT := Aside0.mk ho; clear ho hb hg hat)
       refine hK.out _ _ ?_ ?_
       ·intro _; exact HL.out
       clear hK K
       try simp only [Act.put, List.setIfInBounds_toArray, List.set_cons_zero, List.set_cons_succ]
       refine AnyT.taken (i := 22) (v := ?v53) rfl (by kernel_rfl) (by kernel_rfl) (by kernel_rfl) (by kernel_rfl) (fun _ _ _ h => h) (Or.inl ⟨by rfl, ?y53⟩) ?s53 ?_
       case y53 =>
        intro wSW hSW
        (obtain ⟨k0, k1, k2, k3, k4, k5, k6, k7⟩ := keep8 hSW; go_simp)
        all_goals with_reducible rfl
       case s53 => exact HL.out
       try simp only [Act.put, List.setIfInBounds_toArray, List.set_cons_zero, List.set_cons_succ]
       refine AnyT.ready (rs := [23]) (by kernel_rfl) (by simp) (AllT.step rfl (fun K hK => ?b5423) AllT.nil)
       case b5423 =>
        (refine step_alloc (ob := .cells #[.slice none 0 0, .slice none 0 0] 47) (by rfl) ?hr ?_; (case hr => first | (go_simp; done) | (go_simp; rfl)); intro w9 gz hq hge hb; have FG : Aside0 (w.heap.size ≤ gz) := ⟨Nat.le_trans HB.out.size hge⟩; (try replace FN := Aside0.mk (Kd.R_below FN.out hb)); (try replace FT := Aside0.mk (Kd.R_below FT.out hb)); (try replace FZ := Aside0.mk (blk_below FZ.out hb)); replace HL := Aside0.mk (blk_below HL.out hb); replace HB := Aside0.mk (below_step HB.out hb); have FZ := Aside0.mk hq; clear hq hge hb)
        refine hK.out _ _ ?_ ?_
        ·intro _; exact HL.out
        clear hK K
        try simp only [Act.put, List.setIfInBounds_toArray, List.set_cons_zero, List.set_cons_succ]
        refine AnyT.ready (rs := [24]) (by kernel_rfl) (by simp) (AllT.step rfl (fun K hK => ?b5624) AllT.nil)
        case b5624 =>
         (have hs0 := (blk_cell FZ.out 0).trans rfl; have hs1 := (blk_cell FZ.out 1).trans rfl; have hf0 := blk_frozen FZ.out 0; have hf1 := blk_frozen FZ.out 1; go_simp)
         refine hK.out _ _ ?_ ?_
         ·exact past (by kernel_rfl)
         clear hK K
         try simp only [Act.put, List.setIfInBounds_toArray, List.set_cons_zero, List.set_cons_succ]
         refine AnyT.done (by kernel_rfl) ?_ _
         refine NoPanic.normal ?_
         (go_wp2; go_meet)
         (case rel => exact ⟨gz, .slice A29 7 c29, .slice A35 (l0_7.length + 1) c35, rfl, ⟨PE.of (vN' := .slice none 0 0) (vT' := .slice none 0 0) HL.out HB.out FN.out FT.out FZ.out FG.out⟩⟩)
      case b5123 =>
       (refine step_alloc (ob := .cells #[.slice none 0 0, .slice none 0 0] 47) (by rfl) ?hr ?_; (case hr => first | (go_simp; done) | (go_simp; rfl)); intro w9 gz hq hge hb; have FG : Aside0 (w.heap.size ≤ gz) := ⟨Nat.le_trans HB.out.size hge⟩; (try replace FN := Aside0.mk (Kd.R_below FN.out hb)); (try replace FT := Aside0.mk (Kd.R_below FT.out hb)); (try replace FZ := Aside0.mk (blk_below FZ.out hb)); replace HL := Aside0.mk (blk_below HL.out hb); replace HB := Aside0.mk (below_step HB.out hb); have FZ := Aside0.mk hq; clear hq hge hb)
       refine hK.out _ _ ?_ ?_
       ·intro _; exact HL.out
       clear hK K
       try simp only [Act.put, List.setIfInBounds_toArray, List.set_cons_zero, List.set_cons_succ]
       refine AnyT.ready (rs := [21]) (by kernel_rfl) (by simp) (AllT.step rfl (fun K hK => ?b6021) AllT.nil)
       case b6021 =>
        (refine Kd.R_append_rows_step Kd.string (w0 := w) w.heap.size (by rfl) (.tmp 32) (.tmp 34) 22 9 (.string ⟨#[]⟩) 16 (by rfl) Try.underlying22 info9 rfl (by decide) (by omega) (.slice A32 1 c32) [a0_6] l0_7 _ _ _ (fun _ => True) (fun _ => False) (by rfl) (by rfl) FT.out (Kd.C_below HR7.out HB.out) (fun _ _ h => h) (fun _ h => h.elim) (fun _ _ => trivial) HB.out HB.out.size (by simp only [List.length_cons, List.length_nil]; omega) ?_; intro vx w9 ho hb hg hat; (try replace FN := Aside0.mk (Kd.R_over FN.out FT.out (by decide) hg)); (try replace FZ := Aside0.mk (blk_grown FZ.out hg (Kd.R_ne FT.out FZ.out (by decide)))); replace HL := Aside0.mk (blk_grown HL.out hg (Kd.R_ne FT.out HL.out (by decide))); replace HB := Aside0.mk hb; obtain ⟨A35, c35, e9⟩ := Kd.R_slice ho; subst e9; replace FT := Aside0.mk ho; clear ho hb hg hat)
        refine hK.out _ _ ?_ ?_
        ·intro _; exact HL.out
        clear hK K
        try simp only [Act.put, List.setIfInBounds_toArray, List.set_cons_zero, List.set_cons_succ]
        refine AnyT.taken (i := 22) (v := ?v62) rfl (by kernel_rfl) (by kernel_rfl) (by kernel_rfl) (by kernel_rfl) (fun _ _ _ h => h) (Or.inl ⟨by rfl, ?y62⟩) ?s62 ?_
        case y62 =>
         intro wSW hSW
         (obtain ⟨k0, k1, k2, k3, k4, k5, k6, k7⟩ := keep8 hSW; go_simp)
         all_goals with_reducible rfl
        case s62 => exact HL.out
        try simp only [Act.put, List.setIfInBounds_toArray, List.set_cons_zero, List.set_cons_succ]
        refine AnyT.ready (rs := [24]) (by kernel_rfl) (by simp) (AllT.step rfl (fun K hK => ?b6324) AllT.nil)
        case b6324 =>
         (have hs0 := (blk_cell FZ.out 0).trans rfl; have hs1 := (blk_cell FZ.out 1).trans rfl; have hf0 := blk_frozen FZ.out 0; have hf1 := blk_frozen FZ.out 1; go_simp)
         refine hK.out _ _ ?_ ?_
         ·exact past (by kernel_rfl)
         clear hK K
         try simp only [Act.put, List.setIfInBounds_toArray, List.set_cons_zero, List.set_cons_succ]
         refine AnyT.done (by kernel_rfl) ?_ _
         refine NoPanic.normal ?_
         (go_wp2; go_meet)
         (case rel => exact ⟨gz, .slice A29 7 c29, .slice A35 (l0_7.length + 1) c35, rfl, ⟨PE.of (vN' := .slice none 0 0) (vT' := .slice none 0 0) HL.out HB.out FN.out FT.out FZ.out FG.out⟩⟩)
     case b4921 =>
      (refine Kd.R_append_rows_step Kd.string (w0 := w) w.heap.size (by rfl) (.tmp 32) (.tmp 34) 22 9 (.string ⟨#[]⟩) 16 (by rfl) Try.underlying22 info9 rfl (by decide) (by omega) (.slice A32 1 c32) [a0_6] l0_7 _ _ _ (fun _ => True) (fun _ => False) (by rfl) (by rfl) FT.out (Kd.C_below HR7.out HB.out) (fun _ _ h => h) (fun _ h => h.elim) (fun _ _ => trivial) HB.out HB.out.size (by simp only [List.length_cons, List.length_nil]; omega) ?_; intro vx w9 ho hb hg hat; (try replace FN := Aside0.mk (Kd.R_over FN.out FT.out (by decide) hg)); (try replace FZ := Aside0.mk (blk_grown FZ.out hg (Kd.R_ne FT.out FZ.out (by decide)))); replace HL := Aside0.mk (blk_grown HL.out hg (Kd.R_ne FT.out HL.out (by decide))); replace HB := Aside0.mk hb; obtain ⟨A35, c35, e9⟩ := Kd.R_slice ho; subst e9; replace FT := Aside0.mk ho; clear ho hb hg hat)
      refine hK.out _ _ ?_ ?_
      ·intro _; exact HL.out
      clear hK K
      try simp only [Act.put, List.setIfInBounds_toArray, List.set_cons_zero, List.set_cons_succ]
      refine AnyT.ready (rs := [15, 23]) (by kernel_rfl) (by simp) (AllT.step rfl (fun K hK => ?b6715) (AllT.step rfl (fun K hK => ?b6723) AllT.nil))
      case b6715 =>
       (refine Kd.R_lit_step (Kd.int .i64) (w0 := w) w.heap.size 3 (by rfl) (N := 29) (by rfl) (xs := [a0_0, a0_1, a0_2, a0_3, a0_4, a0_5, (l0_7.length : Int)]) (inner := [.int .i64 a0_0, .int .i64 a0_1, .int .i64 a0_2, .int .i64 a0_3, .int .i64 a0_4, .int .i64 a0_5, .int .i64 (l0_7.length : Int)]) (ok := fun _ => True) (okp := fun _ => True) ?hr (reps_ints _ _ _ [a0_0, a0_1, a0_2, a0_3, a0_4, a0_5, (l0_7.length : Int)]) (fun _ h => h) trivial HB.out HB.out.size (by simp) ?_; (case hr => first | (go_simp; done) | (go_simp; rfl)); intro vx w9 ho hb hg hat; (try replace FN := Aside0.mk (Kd.R_grown FN.out hg (fun _ _ => by simp))); (try replace FT := Aside0.mk (Kd.R_grown FT.out hg (fun _ _ => by simp))); (try replace FZ := Aside0.mk (blk_grown FZ.out hg (by simp))); replace HL := Aside0.mk (blk_grown HL.out hg (by simp)); replace HB := Aside0.mk hb; obtain ⟨A29, c29, e9⟩ := Kd.R_slice ho; subst e9; have FN := Aside0.mk ho; clear ho hb hg hat)
       refine hK.out _ _ ?_ ?_
       ·intro _; exact HL.out
       clear hK K
       try simp only [Act.put, List.setIfInBounds_toArray, List.set_cons_zero, List.set_cons_succ]
       refine AnyT.taken (i := 22) (v := ?v69) rfl (by kernel_rfl) (by kernel_rfl) (by kernel_rfl) (by kernel_rfl) (fun _ _ _ h => h) (Or.inl ⟨by rfl, ?y69⟩) ?s69 ?_
       case y69 =>
        intro wSW hSW
        (obtain ⟨k0, k1, k2, k3, k4, k5, k6, k7⟩ := keep8 hSW; go_simp)
        all_goals with_reducible rfl
       case s69 => exact HL.out
       try simp only [Act.put, List.setIfInBounds_toArray, List.set_cons_zero, List.set_cons_succ]
       refine AnyT.ready (rs := [23]) (by kernel_rfl) (by simp) (AllT.step rfl (fun K hK => ?b7023) AllT.nil)
       case b7023 =>
        (refine step_alloc (ob := .cells #[.slice none 0 0, .slice none 0 0] 47) (by rfl) ?hr ?_; (case hr => first | (go_simp; done) | (go_simp; rfl)); intro w9 gz hq hge hb; have FG : Aside0 (w.heap.size ≤ gz) := ⟨Nat.le_trans HB.out.size hge⟩; (try replace FN := Aside0.mk (Kd.R_below FN.out hb)); (try replace FT := Aside0.mk (Kd.R_below FT.out hb)); (try replace FZ := Aside0.mk (blk_below FZ.out hb)); replace HL := Aside0.mk (blk_below HL.out hb); replace HB := Aside0.mk (below_step HB.out hb); have FZ := Aside0.mk hq; clear hq hge hb)
        refine hK.out _ _ ?_ ?_
        ·intro _; exact HL.out
        clear hK K
        try simp only [Act.put, List.setIfInBounds_toArray, List.set_cons_zero, List.set_cons_succ]
        refine AnyT.ready (rs := [24]) (by kernel_rfl) (by simp) (AllT.step rfl (fun K hK => ?b7224) AllT.nil)
        case b7224 =>
         (have hs0 := (blk_cell FZ.out 0).trans rfl; have hs1 := (blk_cell FZ.out 1).trans rfl; have hf0 := blk_frozen FZ.out 0; have hf1 := blk_frozen FZ.out 1; go_simp)
         refine hK.out _ _ ?_ ?_
         ·exact past (by kernel_rfl)
         clear hK K
         try simp only [Act.put, List.setIfInBounds_toArray, List.set_cons_zero, List.set_cons_succ]
         refine AnyT.done (by kernel_rfl) ?_ _
         refine NoPanic.normal ?_
         (go_wp2; go_meet)
         (case rel => exact ⟨gz, .slice A29 7 c29, .slice A35 (l0_7.length + 1) c35, rfl, ⟨PE.of (vN' := .slice none 0 0) (vT' := .slice none 0 0) HL.out HB.out FN.out FT.out FZ.out FG.out⟩⟩)
      case b6723 =>
       (refine step_alloc (ob := .cells #[.slice none 0 0, .slice none 0 0] 47) (by rfl) ?hr ?_; (case hr => first | (go_simp; done) | (go_simp; rfl)); intro w9 gz hq hge hb; have FG : Aside0 (w.heap.size ≤ gz) := ⟨Nat.le_trans HB.out.size hge⟩; (try replace FN := Aside0.mk (Kd.R_below FN.out hb)); (try replace FT := Aside0.mk (Kd.R_below FT.out hb)); (try replace FZ := Aside0.mk (blk_below FZ.out hb)); replace HL := Aside0.mk (blk_below HL.out hb); replace HB := Aside0.mk (below_step HB.out hb); have FZ := Aside0.mk hq; clear hq hge hb)
       refine hK.out _ _ ?_ ?_
       ·intro _; exact HL.out
       clear hK K
       try simp only [Act.put, List.setIfInBounds_toArray, List.set_cons_zero, List.set_cons_succ]
       refine AnyT.ready (rs := [15]) (by kernel_rfl) (by simp) (AllT.step rfl (fun K hK => ?b7615) AllT.nil)
       case b7615 =>
        (refine Kd.R_lit_step (Kd.int .i64) (w0 := w) w.heap.size 3 (by rfl) (N := 29) (by rfl) (xs := [a0_0, a0_1, a0_2, a0_3, a0_4, a0_5, (l0_7.length : Int)]) (inner := [.int .i64 a0_0, .int .i64 a0_1, .int .i64 a0_2, .int .i64 a0_3, .int .i64 a0_4, .int .i64 a0_5, .int .i64 (l0_7.length : Int)]) (ok := fun _ => True) (okp := fun _ => True) ?hr (reps_ints _ _ _ [a0_0, a0_1, a0_2, a0_3, a0_4, a0_5, (l0_7.length : Int)]) (fun _ h => h) trivial HB.out HB.out.size (by simp) ?_; (case hr => first | (go_simp; done) | (go_simp; rfl)); intro vx w9 ho hb hg hat; (try replace FN := Aside0.mk (Kd.R_grown FN.out hg (fun _ _ => by simp))); (try replace FT := Aside0.mk (Kd.R_grown FT.out hg (fun _ _ => by simp))); (try replace FZ := Aside0.mk (blk_grown FZ.out hg (by simp))); replace HL := Aside0.mk (blk_grown HL.out hg (by simp)); replace HB := Aside0.mk hb; obtain ⟨A29, c29, e9⟩ := Kd.R_slice ho; subst e9; have FN := Aside0.mk ho; clear ho hb hg hat)
        refine hK.out _ _ ?_ ?_
        ·intro _; exact HL.out
        clear hK K
        try simp only [Act.put, List.setIfInBounds_toArray, List.set_cons_zero, List.set_cons_succ]
        refine AnyT.taken (i := 22) (v := ?v78) rfl (by kernel_rfl) (by kernel_rfl) (by kernel_rfl) (by kernel_rfl) (fun _ _ _ h => h) (Or.inl ⟨by rfl, ?y78⟩) ?s78 ?_
        case y78 =>
         intro wSW hSW
         (obtain ⟨k0, k1, k2, k3, k4, k5, k6, k7⟩ := keep8 hSW; go_simp)
         all_goals with_reducible rfl
        case s78 => exact HL.out
        try simp only [Act.put, List.setIfInBounds_toArray, List.set_cons_zero, List.set_cons_succ]
        refine AnyT.ready (rs := [24]) (by kernel_rfl) (by simp) (AllT.step rfl (fun K hK => ?b7924) AllT.nil)
        case b7924 =>
         (have hs0 := (blk_cell FZ.out 0).trans rfl; have hs1 := (blk_cell FZ.out 1).trans rfl; have hf0 := blk_frozen FZ.out 0; have hf1 := blk_frozen FZ.out 1; go_simp)
         refine hK.out _ _ ?_ ?_
         ·exact past (by kernel_rfl)
         clear hK K
         try simp only [Act.put, List.setIfInBounds_toArray, List.set_cons_zero, List.set_cons_succ]
         refine AnyT.done (by kernel_rfl) ?_ _
         refine NoPanic.normal ?_
         (go_wp2; go_meet)
         (case rel => exact ⟨gz, .slice A29 7 c29, .slice A35 (l0_7.length + 1) c35, rfl, ⟨PE.of (vN' := .slice none 0 0) (vT' := .slice none 0 0) HL.out HB.out FN.out FT.out FZ.out FG.out⟩⟩)
     case b4923 =>
      (refine step_alloc (ob := .cells #[.slice none 0 0, .slice none 0 0] 47) (by rfl) ?hr ?_; (case hr => first | (go_simp; done) | (go_simp; rfl)); intro w9 gz hq hge hb; have FG : Aside0 (w.heap.size ≤ gz) := ⟨Nat.le_trans HB.out.size hge⟩; (try replace FN := Aside0.mk (Kd.R_below FN.out hb)); (try replace FT := Aside0.mk (Kd.R_below FT.out hb)); (try replace FZ := Aside0.mk (blk_below FZ.out hb)); replace HL := Aside0.mk (blk_below HL.out hb); replace HB := Aside0.mk (below_step HB.out hb); have FZ := Aside0.mk hq; clear hq hge hb)
      refine hK.out _ _ ?_ ?_
      ·intro _; exact HL.out
      clear hK K
      try simp only [Act.put, List.setIfInBounds_toArray, List.set_cons_zero, List.set_cons_succ]
      refine AnyT.ready (rs := [15, 21]) (by kernel_rfl) (by simp) (AllT.step rfl (fun K hK => ?b8315) (AllT.step rfl (fun K hK => ?b8321) AllT.nil))
      case b8315 =>
       (refine Kd.R_lit_step (Kd.int .i64) (w0 := w) w.heap.size 3 (by rfl) (N := 29) (by rfl) (xs := [a0_0, a0_1, a0_2, a0_3, a0_4, a0_5, (l0_7.length : Int)]) (inner := [.int .i64 a0_0, .int .i64 a0_1, .int .i64 a0_2, .int .i64 a0_3, .int .i64 a0_4, .int .i64 a0_5, .int .i64 (l0_7.length : Int)]) (ok := fun _ => True) (okp := fun _ => True) ?hr (reps_ints _ _ _ [a0_0, a0_1, a0_2, a0_3, a0_4, a0_5, (l0_7.length : Int)]) (fun _ h => h) trivial HB.out HB.out.size (by simp) ?_; (case hr => first | (go_simp; done) | (go_simp; rfl)); intro vx w9 ho hb hg hat; (try replace FN := Aside0.mk (Kd.R_grown FN.out hg (fun _ _ => by simp))); (try replace FT := Aside0.mk (Kd.R_grown FT.out hg (fun _ _ => by simp))); (try replace FZ := Aside0.mk (blk_grown FZ.out hg (by simp))); replace HL := Aside0.mk (blk_grown HL.out hg (by simp)); replace HB := Aside0.mk hb; obtain ⟨A29, c29, e9⟩ := Kd.R_slice ho; subst e9; have FN := Aside0.mk ho; clear ho hb hg hat)
       refine hK.out _ _ ?_ ?_
       ·intro _; exact HL.out
       clear hK K
       try simp only [Act.put, List.setIfInBounds_toArray, List.set_cons_zero, List.set_cons_succ]
       refine AnyT.ready (rs := [21]) (by kernel_rfl) (by simp) (AllT.step rfl (fun K hK => ?b8521) AllT.nil)
       case b8521 =>
        (refine Kd.R_append_rows_step Kd.string (w0 := w) w.heap.size (by rfl) (.tmp 32) (.tmp 34) 22 9 (.string ⟨#[]⟩) 16 (by rfl) Try.underlying22 info9 rfl (by decide) (by omega) (.slice A32 1 c32) [a0_6] l0_7 _ _ _ (fun _ => True) (fun _ => False) (by rfl) (by rfl) FT.out (Kd.C_below HR7.out HB.out) (fun _ _ h => h) (fun _ h => h.elim) (fun _ _ => trivial) HB.out HB.out.size (by simp only [List.length_cons, List.length_nil]; omega) ?_; intro vx w9 ho hb hg hat; (try replace FN := Aside0.mk (Kd.R_over FN.out FT.out (by decide) hg)); (try replace FZ := Aside0.mk (blk_grown FZ.out hg (Kd.R_ne FT.out FZ.out (by decide)))); replace HL := Aside0.mk (blk_grown HL.out hg (Kd.R_ne FT.out HL.out (by decide))); replace HB := Aside0.mk hb; obtain ⟨A35, c35, e9⟩ := Kd.R_slice ho; subst e9; replace FT := Aside0.mk ho; clear ho hb hg hat)
        refine hK.out _ _ ?_ ?_
        ·intro _; exact HL.out
        clear hK K
        try simp only [Act.put, List.setIfInBounds_toArray, List.set_cons_zero, List.set_cons_succ]
        refine AnyT.taken (i := 22) (v := ?v87) rfl (by kernel_rfl) (by kernel_rfl) (by kernel_rfl) (by kernel_rfl) (fun _ _ _ h => h) (Or.inl ⟨by rfl, ?y87⟩) ?s87 ?_
        case y87 =>
         intro wSW hSW
         (obtain ⟨k0, k1, k2, k3, k4, k5, k6, k7⟩ := keep8 hSW; go_simp)
         all_goals with_reducible rfl
        case s87 => exact HL.out
        try simp only [Act.put, List.setIfInBounds_toArray, List.set_cons_zero, List.set_cons_succ]
        refine AnyT.ready (rs := [24]) (by kernel_rfl) (by simp) (AllT.step rfl (fun K hK => ?b8824) AllT.nil)
        case b8824 =>
         (have hs0 := (blk_cell FZ.out 0).trans rfl; have hs1 := (blk_cell FZ.out 1).trans rfl; have hf0 := blk_frozen FZ.out 0; have hf1 := blk_frozen FZ.out 1; go_simp)
         refine hK.out _ _ ?_ ?_
         ·exact past (by kernel_rfl)
         clear hK K
         try simp only [Act.put, List.setIfInBounds_toArray, List.set_cons_zero, List.set_cons_succ]
         refine AnyT.done (by kernel_rfl) ?_ _
         refine NoPanic.normal ?_
         (go_wp2; go_meet)
         (case rel => exact ⟨gz, .slice A29 7 c29, .slice A35 (l0_7.length + 1) c35, rfl, ⟨PE.of (vN' := .slice none 0 0) (vT' := .slice none 0 0) HL.out HB.out FN.out FT.out FZ.out FG.out⟩⟩)
      case b8321 =>
       (refine Kd.R_append_rows_step Kd.string (w0 := w) w.heap.size (by rfl) (.tmp 32) (.tmp 34) 22 9 (.string ⟨#[]⟩) 16 (by rfl) Try.underlying22 info9 rfl (by decide) (by omega) (.slice A32 1 c32) [a0_6] l0_7 _ _ _ (fun _ => True) (fun _ => False) (by rfl) (by rfl) FT.out (Kd.C_below HR7.out HB.out) (fun _ _ h => h) (fun _ h => h.elim) (fun _ _ => trivial) HB.out HB.out.size (by simp only [List.length_cons, List.length_nil]; omega) ?_; intro vx w9 ho hb hg hat; (try replace FN := Aside0.mk (Kd.R_over FN.out FT.out (by decide) hg)); (try replace FZ := Aside0.mk (blk_grown FZ.out hg (Kd.R_ne FT.out FZ.out (by decide)))); replace HL := Aside0.mk (blk_grown HL.out hg (Kd.R_ne FT.out HL.out (by decide))); replace HB := Aside0.mk hb; obtain ⟨A35, c35, e9⟩ := Kd.R_slice ho; subst e9; replace FT := Aside0.mk ho; clear ho hb hg hat)
       refine hK.out _ _ ?_ ?_
       ·intro _; exact HL.out
       clear hK K
       try simp only [Act.put, List.setIfInBounds_toArray, List.set_cons_zero, List.set_cons_succ]
       refine AnyT.ready (rs := [15]) (by kernel_rfl) (by simp) (AllT.step rfl (fun K hK => ?b9215) AllT.nil)
       case b9215 =>
        (refine Kd.R_lit_step (Kd.int .i64) (w0 := w) w.heap.size 3 (by rfl) (N := 29) (by rfl) (xs := [a0_0, a0_1, a0_2, a0_3, a0_4, a0_5, (l0_7.length : Int)]) (inner := [.int .i64 a0_0, .int .i64 a0_1, .int .i64 a0_2, .int .i64 a0_3, .int .i64 a0_4, .int .i64 a0_5, .int .i64 (l0_7.length : Int)]) (ok := fun _ => True) (okp := fun _ => True) ?hr (reps_ints _ _ _ [a0_0, a0_1, a0_2, a0_3, a0_4, a0_5, (l0_7.length : Int)]) (fun _ h => h) trivial HB.out HB.out.size (by simp) ?_; (case hr => first | (go_simp; done) | (go_simp; rfl)); intro vx w9 ho hb hg hat; (try replace FN := Aside0.mk (Kd.R_grown FN.out hg (fun _ _ => by simp))); (try replace FT := Aside0.mk (Kd.R_grown FT.out hg (fun _ _ => by simp))); (try replace FZ := Aside0.mk (blk_grown FZ.out hg (by simp))); replace HL := Aside0.mk (blk_grown HL.out hg (by simp)); replace HB := Aside0.mk hb; obtain ⟨A29, c29, e9⟩ := Kd.R_slice ho; subst e9; have FN := Aside0.mk ho; clear ho hb hg hat)
        refine hK.out _ _ ?_ ?_
        ·intro _; exact HL.out
        clear hK K
        try simp only [Act.put, List.setIfInBounds_toArray, List.set_cons_zero, List.set_cons_succ]
        refine AnyT.taken (i := 22) (v := ?v94) rfl (by kernel_rfl) (by kernel_rfl) (by kernel_rfl) (by kernel_rfl) (fun _ _ _ h => h) (Or.inl ⟨by rfl, ?y94⟩) ?s94 ?_
        case y94 =>
         intro wSW hSW
         (obtain ⟨k0, k1, k2, k3, k4, k5, k6, k7⟩ := keep8 hSW; go_simp)
         all_goals with_reducible rfl
        case s94 => exact HL.out
        try simp only [Act.put, List.setIfInBounds_toArray, List.set_cons_zero, List.set_cons_succ]
        refine AnyT.ready (rs := [24]) (by kernel_rfl) (by simp) (AllT.step rfl (fun K hK => ?b9524) AllT.nil)
        case b9524 =>
         (have hs0 := (blk_cell FZ.out 0).trans rfl; have hs1 := (blk_cell FZ.out 1).trans rfl; have hf0 := blk_frozen FZ.out 0; have hf1 := blk_frozen FZ.out 1; go_simp)
         refine hK.out _ _ ?_ ?_
         ·exact past (by kernel_rfl)
         clear hK K
         try simp only [Act.put, List.setIfInBounds_toArray, List.set_cons_zero, List.set_cons_succ]
         refine AnyT.done (by kernel_rfl) ?_ _
         refine NoPanic.normal ?_
         (go_wp2; go_meet)
         (case rel => exact ⟨gz, .slice A29 7 c29, .slice A35 (l0_7.length + 1) c35, rfl, ⟨PE.of (vN' := .slice none 0 0) (vT' := .slice none 0 0) HL.out HB.out FN.out FT.out FZ.out FG.out⟩⟩)
    case b2023 =>
     (refine step_alloc (ob := .cells #[.slice none 0 0, .slice none 0 0] 47) (by rfl) ?hr ?_; (case hr => first | (go_simp; done) | (go_simp; rfl)); intro w9 gz hq hge hb; have FG : Aside0 (w.heap.size ≤ gz) := ⟨Nat.le_trans HB.out.size hge⟩; (try replace FN := Aside0.mk (Kd.R_below FN.out hb)); (try replace FT := Aside0.mk (Kd.R_below FT.out hb)); (try replace FZ := Aside0.mk (blk_below FZ.out hb)); replace HL := Aside0.mk (blk_below HL.out hb); replace HB := Aside0.mk (below_step HB.out hb); have FZ := Aside0.mk hq; clear hq hge hb)
     refine hK.out _ _ ?_ ?_
     ·intro _; exact HL.out
     clear hK K
     try simp only [Act.put, List.setIfInBounds_toArray, List.set_cons_zero, List.set_cons_succ]
     refine AnyT.ready (rs := [15, 18]) (by kernel_rfl) (by simp) (AllT.step rfl (fun K hK => ?b9915) (AllT.step rfl (fun K hK => ?b9918) AllT.nil))
     case b9915 =>
      (refine Kd.R_lit_step (Kd.int .i64) (w0 := w) w.heap.size 3 (by rfl) (N := 29) (by rfl) (xs := [a0_0, a0_1, a0_2, a0_3, a0_4, a0_5, (l0_7.length : Int)]) (inner := [.int .i64 a0_0, .int .i64 a0_1, .int .i64 a0_2, .int .i64 a0_3, .int .i64 a0_4, .int .i64 a0_5, .int .i64 (l0_7.length : Int)]) (ok := fun _ => True) (okp := fun _ => True) ?hr (reps_ints _ _ _ [a0_0, a0_1, a0_2, a0_3, a0_4, a0_5, (l0_7.length : Int)]) (fun _ h => h) trivial HB.out HB.out.size (by simp) ?_; (case hr => first | (go_simp; done) | (go_simp; rfl)); intro vx w9 ho hb hg hat; (try replace FN := Aside0.mk (Kd.R_grown FN.out hg (fun _ _ => by simp))); (try replace FT := Aside0.mk (Kd.R_grown FT.out hg (fun _ _ => by simp))); (try replace FZ := Aside0.mk (blk_grown FZ.out hg (by simp))); replace HL := Aside0.mk (blk_grown HL.out hg (by simp)); replace HB := Aside0.mk hb; obtain ⟨A29, c29, e9⟩ := Kd.R_slice ho; subst e9; have FN := Aside0.mk ho; clear ho hb hg hat)
      refine hK.out _ _ ?_ ?_
      ·intro _; exact HL.out
      clear hK K
      try simp only [Act.put, List.setIfInBounds_toArray, List.set_cons_zero, List.set_cons_succ]
      refine AnyT.ready (rs := [18]) (by kernel_rfl) (by simp) (AllT.step rfl (fun K hK => ?b10118) AllT.nil)
      case b10118 =>
       (refine Kd.R_lit_step Kd.string (w0 := w) w.heap.size 9 (by rfl) (N := 32) (by rfl) (xs := [a0_6]) (inner := [.string a0_6]) (ok := fun _ => True) (okp := fun _ => True) ?hr (reps_texts _ _ _ [a0_6]) (fun _ h => h) trivial HB.out HB.out.size (by simp) ?_; (case hr => first | (go_simp; done) | (go_simp; rfl)); intro vx w9 ho hb hg hat; (try replace FN := Aside0.mk (Kd.R_grown FN.out hg (fun _ _ => by simp))); (try replace FT := Aside0.mk (Kd.R_grown FT.out hg (fun _ _ => by simp))); (try replace FZ := Aside0.mk (blk_grown FZ.out hg (by simp))); replace HL := Aside0.mk (blk_grown HL.out hg (by simp)); replace HB := Aside0.mk hb; obtain ⟨A32, c32, e9⟩ := Kd.R_slice ho; subst e9; have FT := Aside0.mk ho; clear ho hb hg hat)
       refine hK.out _ _ ?_ ?_
       ·intro _; exact HL.out
       clear hK K
       try simp only [Act.put, List.setIfInBounds_toArray, List.set_cons_zero, List.set_cons_succ]
       refine AnyT.ready (rs := [21]) (by kernel_rfl) (by simp) (AllT.step rfl (fun K hK => ?b10321) AllT.nil)
       case b10321 =>
        (refine Kd.R_append_rows_step Kd.string (w0 := w) w.heap.size (by rfl) (.tmp 32) (.tmp 34) 22 9 (.string ⟨#[]⟩) 16 (by rfl) Try.underlying22 info9 rfl (by decide) (by omega) (.slice A32 1 c32) [a0_6] l0_7 _ _ _ (fun _ => True) (fun _ => False) (by rfl) (by rfl) FT.out (Kd.C_below HR7.out HB.out) (fun _ _ h => h) (fun _ h => h.elim) (fun _ _ => trivial) HB.out HB.out.size (by simp only [List.length_cons, List.length_nil]; omega) ?_; intro vx w9 ho hb hg hat; (try replace FN := Aside0.mk (Kd.R_over FN.out FT.out (by decide) hg)); (try replace FZ := Aside0.mk (blk_grown FZ.out hg (Kd.R_ne FT.out FZ.out (by decide)))); replace HL := Aside0.mk (blk_grown HL.out hg (Kd.R_ne FT.out HL.out (by decide))); replace HB := Aside0.mk hb; obtain ⟨A35, c35, e9⟩ := Kd.R_slice ho; subst e9; replace FT := Aside0.mk ho; clear ho hb hg hat)
        refine hK.out _ _ ?_ ?_
        ·intro _; exact HL.out
        clear hK K
        try simp only [Act.put, List.setIfInBounds_toArray, List.set_cons_zero, List.set_cons_succ]
        refine AnyT.taken (i := 22) (v := ?v105) rfl (by kernel_rfl) (by kernel_rfl) (by kernel_rfl) (by kernel_rfl) (fun _ _ _ h => h) (Or.inl ⟨by rfl, ?y105⟩) ?s105 ?_
        case y105 =>
         intro wSW hSW
         (obtain ⟨k0, k1, k2, k3, k4, k5, k6, k7⟩ := keep8 hSW; go_simp)
         all_goals with_reducible rfl
        case s105 => exact HL.out
        try simp only [Act.put, List.setIfInBounds_toArray, List.set_cons_zero, List.set_cons_succ]
        refine AnyT.ready (rs := [24]) (by kernel_rfl) (by simp) (AllT.step rfl (fun K hK => ?b10624) AllT.nil)
        case b10624 =>
         (have hs0 := (blk_cell FZ.out 0).trans rfl; have hs1 := (blk_cell FZ.out 1).trans rfl; have hf0 := blk_frozen FZ.out 0; have hf1 := blk_frozen FZ.out 1; go_simp)
         refine hK.out _ _ ?_ ?_
         ·exact past (by kernel_rfl)
         clear hK K
         try simp only [Act.put, List.setIfInBounds_toArray, List.set_cons_zero, List.set_cons_succ]
         refine AnyT.done (by kernel_rfl) ?_ _
         refine NoPanic.normal ?_
         (go_wp2; go_meet)
         (case rel => exact ⟨gz, .slice A29 7 c29, .slice A35 (l0_7.length + 1) c35, rfl, ⟨PE.of (vN' := .slice none 0 0) (vT' := .slice none 0 0) HL.out HB.out FN.out FT.out FZ.out FG.out⟩⟩)
     case b9918 =>
      (refine Kd.R_lit_step Kd.string (w0 := w) w.heap.size 9 (by rfl) (N := 32) (by rfl) (xs := [a0_6]) (inner := [.string a0_6]) (ok := fun _ => True) (okp := fun _ => True) ?hr (reps_texts _ _ _ [a0_6]) (fun _ h => h) trivial HB.out HB.out.size (by simp) ?_; (case hr => first | (go_simp; done) | (go_simp; rfl)); intro vx w9 ho hb hg hat; (try replace FN := Aside0.mk (Kd.R_grown FN.out hg (fun _ _ => by simp))); (try replace FT := Aside0.mk (Kd.R_grown FT.out hg (fun _ _ => by simp))); (try replace FZ := Aside0.mk (blk_grown FZ.out hg (by simp))); replace HL := Aside0.mk (blk_grown HL.out hg (by simp)); replace HB := Aside0.mk hb; obtain ⟨A32, c32, e9⟩ := Kd.R_slice ho; subst e9; have FT := Aside0.mk ho; clear ho hb hg hat)
      refine hK.out _ _ ?_ ?_
      ·intro _; exact HL.out
      clear hK K
      try simp only [Act.put, List.setIfInBounds_toArray, List.set_cons_zero, List.set_cons_succ]
      refine AnyT.ready (rs := [15, 21]) (by kernel_rfl) (by simp) (AllT.step rfl (fun K hK => ?b11015) (AllT.step rfl (fun K hK => ?b11021) AllT.nil))
      case b11015 =>
       (refine Kd.R_lit_step (Kd.int .i64) (w0 := w) w.heap.size 3 (by rfl) (N := 29) (by rfl) (xs := [a0_0, a0_1, a0_2, a0_3, a0_4, a0_5, (l0_7.length : Int)]) (inner := [.int .i64 a0_0, .int .i64 a0_1, .int .i64 a0_2, .int .i64 a0_3, .int .i64 a0_4, .int .i64 a0_5, .int .i64 (l0_7.length : Int)]) (ok := fun _ => True) (okp := fun _ => True) ?hr (reps_ints _ _ _ [a0_0, a0_1, a0_2, a0_3, a0_4, a0_5, (l0_7.length : Int)]) (fun _ h => h) trivial HB.out HB.out.size (by simp) ?_; (case hr => first | (go_simp; done) | (go_simp; rfl)); intro vx w9 ho hb hg hat; (try replace FN := Aside0.mk (Kd.R_grown FN.out hg (fun _ _ => by simp))); (try replace FT := Aside0.mk (Kd.R_grown FT.out hg (fun _ _ => by simp))); (try replace FZ := Aside0.mk (blk_grown FZ.out hg (by simp))); replace HL := Aside0.mk (blk_grown HL.out hg (by simp)); replace HB := Aside0.mk hb; obtain ⟨A29, c29, e9⟩ := Kd.R_slice ho; subst e9; have FN := Aside0.mk ho; clear ho hb hg hat)
       refine hK.out _ _ ?_ ?_
       ·intro _; exact HL.out
       clear hK K
       try simp only [Act.put, List.setIfInBounds_toArray, List.set_cons_zero, List.set_cons_succ]
       refine AnyT.ready (rs := [21]) (by kernel_rfl) (by simp) (AllT.step rfl (fun K hK => ?b11221) AllT.nil)
       case b11221 =>
        (refine Kd.R_append_rows_step Kd.string (w0 := w) w.heap.size (by rfl) (.tmp 32) (.tmp 34) 22 9 (.string ⟨#[]⟩) 16 (by rfl) Try.underlying22 info9 rfl (by decide) (by omega) (.slice A32 1 c32) [a0_6] l0_7 _ _ _ (fun _ => True) (fun _ => False) (by rfl) (by rfl) FT.out (Kd.C_below HR7.out HB.out) (fun _ _ h => h) (fun _ h => h.elim) (fun _ _ => trivial) HB.out HB.out.size (by simp only [List.length_cons, List.length_nil]; omega) ?_; intro vx w9 ho hb hg hat; (try replace FN := Aside0.mk (Kd.R_over FN.out FT.out (by decide) hg)); (try replace FZ := Aside0.mk (blk_grown FZ.out hg (Kd.R_ne FT.out FZ.out (by decide)))); replace HL := Aside0.mk (blk_grown HL.out hg (Kd.R_ne FT.out HL.out (by decide))); replace HB := Aside0.mk hb; obtain ⟨A35, c35, e9⟩ := Kd.R_slice ho; subst e9; replace FT := Aside0.mk ho; clear ho hb hg hat)
        refine hK.out _ _ ?_ ?_
        ·intro _; exact HL.out
        clear hK K
        try simp only [Act.put, List.setIfInBounds_toArray, List.set_cons_zero, List.set_cons_succ]
        refine AnyT.taken (i := 22) (v := ?v114) rfl (by kernel_rfl) (by kernel_rfl) (by kernel_rfl) (by kernel_rfl) (fun _ _ _ h => h) (Or.inl ⟨by rfl, ?y114⟩) ?s114 ?_
        case y114 =>
         intro wSW hSW
         (obtain ⟨k0, k1, k2, k3, k4, k5, k6, k7⟩ := keep8 hSW; go_simp)
         all_goals with_reducible rfl
        case s114 => exact HL.out
        try simp only [Act.put, List.setIfInBounds_toArray, List.set_cons_zero, List.set_cons_succ]
        refine AnyT.ready (rs := [24]) (by kernel_rfl) (by simp) (AllT.step rfl (fun K hK => ?b11524) AllT.nil)
        case b11524 =>
         (have hs0 := (blk_cell FZ.out 0).trans rfl; have hs1 := (blk_cell FZ.out 1).trans rfl; have hf0 := blk_frozen FZ.out 0; have hf1 := blk_frozen FZ.out 1; go_simp)
         refine hK.out _ _ ?_ ?_
         ·exact past (by kernel_rfl)
         clear hK K
         try simp only [Act.put, List.setIfInBounds_toArray, List.set_cons_zero, List.set_cons_succ]
         refine AnyT.done (by kernel_rfl) ?_ _
         refine NoPanic.normal ?_
         (go_wp2; go_meet)
         (case rel => exact ⟨gz, .slice A29 7 c29, .slice A35 (l0_7.length + 1) c35, rfl, ⟨PE.of (vN' := .slice none 0 0) (vT' := .slice none 0 0) HL.out HB.out FN.out FT.out FZ.out FG.out⟩⟩)
      case b11021 =>
       (refine Kd.R_append_rows_step Kd.string (w0 := w) w.heap.size (by rfl) (.tmp 32) (.tmp 34) 22 9 (.string ⟨#[]⟩) 16 (by rfl) Try.underlying22 info9 rfl (by decide) (by omega) (.slice A32 1 c32) [a0_6] l0_7 _ _ _ (fun _ => True) (fun _ => False) (by rfl) (by rfl) FT.out (Kd.C_below HR7.out HB.out) (fun _ _ h => h) (fun _ h => h.elim) (fun _ _ => trivial) HB.out HB.out.size (by simp only [List.length_cons, List.length_nil]; omega) ?_; intro vx w9 ho hb hg hat; (try replace FN := Aside0.mk (Kd.R_over FN.out FT.out (by decide) hg)); (try replace FZ := Aside0.mk (blk_grown FZ.out hg (Kd.R_ne FT.out FZ.out (by decide)))); replace HL := Aside0.mk (blk_grown HL.out hg (Kd.R_ne FT.out HL.out (by decide))); replace HB := Aside0.mk hb; obtain ⟨A35, c35, e9⟩ := Kd.R_slice ho; subst e9; replace FT := Aside0.mk ho; clear ho hb hg hat)
       refine hK.out _ _ ?_ ?_
       ·intro _; exact HL.out
       clear hK K
       try simp only [Act.put, List.setIfInBounds_toArray, List.set_cons_zero, List.set_cons_succ]
       refine AnyT.ready (rs := [15]) (by kernel_rfl) (by simp) (AllT.step rfl (fun K hK => ?b11915) AllT.nil)
       case b11915 =>
        (refine Kd.R_lit_step (Kd.int .i64) (w0 := w) w.heap.size 3 (by rfl) (N := 29) (by rfl) (xs := [a0_0, a0_1, a0_2, a0_3, a0_4, a0_5, (l0_7.length : Int)]) (inner := [.int .i64 a0_0, .int .i64 a0_1, .int .i64 a0_2, .int .i64 a0_3, .int .i64 a0_4, .int .i64 a0_5, .int .i64 (l0_7.length : Int)]) (ok := fun _ => True) (okp := fun _ => True) ?hr (reps_ints _ _ _ [a0_0, a0_1, a0_2, a0_3, a0_4, a0_5, (l0_7.length : Int)]) (fun _ h => h) trivial HB.out HB.out.size (by simp) ?_; (case hr => first | (go_simp; done) | (go_simp; rfl)); intro vx w9 ho hb hg hat; (try replace FN := Aside0.mk (Kd.R_grown FN.out hg (fun _ _ => by simp))); (try replace FT := Aside0.mk (Kd.R_grown FT.out hg (fun _ _ => by simp))); (try replace FZ := Aside0.mk (blk_grown FZ.out hg (by simp))); replace HL := Aside0.mk (blk_grown HL.out hg (by simp)); replace HB := Aside0.mk hb; obtain ⟨A29, c29, e9⟩ := Kd.R_slice ho; subst e9; have FN := Aside0.mk ho; clear ho hb hg hat)
        refine hK.out _ _ ?_ ?_
        ·intro _; exact HL.out
        clear hK K
        try simp only [Act.put, List.setIfInBounds_toArray, List.set_cons_zero, List.set_cons_succ]
        refine AnyT.taken (i := 22) (v := ?v121) rfl (by kernel_rfl) (by kernel_rfl) (by kernel_rfl) (by kernel_rfl) (fun _ _ _ h => h) (Or.inl ⟨by rfl, ?y121⟩) ?s121 ?_
        case y121 =>
         intro wSW hSW
         (obtain ⟨k0, k1, k2, k3, k4, k5, k6, k7⟩ := keep8 hSW; go_simp)
         all_goals with_reducible rfl
        case s121 => exact HL.out
        try simp only [Act.put, List.setIfInBounds_toArray, List.set_cons_zero, List.set_cons_succ]
        refine AnyT.ready (rs := [24]) (by kernel_rfl) (by simp) (AllT.step rfl (fun K hK => ?b12224) AllT.nil)
        case b12224 =>
         (have hs0 := (blk_cell FZ.out 0).trans rfl; have hs1 := (blk_cell FZ.out 1).trans rfl; have hf0 := blk_frozen FZ.out 0; have hf1 := blk_frozen FZ.out 1; go_simp)
         refine hK.out _ _ ?_ ?_
         ·exact past (by kernel_rfl)
         clear hK K
         try simp only [Act.put, List.setIfInBounds_toArray, List.set_cons_zero, List.set_cons_succ]
         refine AnyT.done (by kernel_rfl) ?_ _
         refine NoPanic.normal ?_
         (go_wp2; go_meet)
         (case rel => exact ⟨gz, .slice A29 7 c29, .slice A35 (l0_7.length + 1) c35, rfl, ⟨PE.of (vN' := .slice none 0 0) (vT' := .slice none 0 0) HL.out HB.out FN.out FT.out FZ.out FG.out⟩⟩)
   case rest =>
    obtain ⟨gp, vN0, vT0, rfl, HP0⟩ := hcut
    clear HL HB HB2 BL2
    have hcz_8 : wc.cell? ⟨gl, 8, none⟩ = some (.slice A0_8 l0_8.length c0_8) := (blk_cell HP0.out.bl 8).trans rfl
    go_wp2
    go_loopw [40] (fun v40 wr => ∃ (i : Nat) (x : Int) (xs : List Int) (ts : List ByteArray) (vN vT : Value), v40 = .int .i64 x ∧ Aside0 (x = (i : Int)) ∧ Aside0 (i ≤ l0_8.length) ∧ Aside0 (xs = [a0_0, a0_1, a0_2, a0_3, a0_4, a0_5, (l0_7.length : Int)] ++ flagsOf (l0_8.take i)) ∧ Aside0 (ts = ([a0_6] ++ l0_7) ++ pairsOf (l0_8.take i)) ∧ Aside0 (PE w wr gl #[.int .i64 a0_0, .int .i64 a0_1, .int .i64 a0_2, .int .i64 a0_3, .int .i64 a0_4, .int .i64 a0_5, .string a0_6, .slice A0_7 l0_7.length c0_7, .slice A0_8 l0_8.length c0_8] gp xs ts vN vT)) (fun v40 _ => l0_8.length - (intOf v40).toNat)
    case atStart => exact ⟨0, 0, [a0_0, a0_1, a0_2, a0_3, a0_4, a0_5, (l0_7.length : Int)], [a0_6] ++ l0_7, _, _, rfl, ⟨rfl⟩, ⟨Nat.zero_le _⟩, ⟨by simp [flagsOf]⟩, ⟨by simp [pairsOf]⟩, HP0⟩
    case round =>
     clear hcz_8
     obtain ⟨i, x, xs, ts, vN, vT, rfl, hx, hi, hxs, hts, HP⟩ := hrel
     clear HP0
     have hxi := hx.out
     have hile := hi.out
     by_cases hlt : i < l0_8.length
     ·have c1 : decide (x < (l0_8.length : Int)) = true := decide_eq_true (by omega)
      have p118 : 0 ≤ x := by omega
      have q118 : x < (l0_8.length : Int) := by omega
      have hrd : rd_T49 l0_8 x = l0_8[i] := by rw [hxi]; exact rdT_get hlt
      obtain ⟨ad, e118, hx0, hx1, hx2⟩ := at_T49 HR8.out x p118 q118
      cases e118
      rw [hrd] at hx0 hx1 hx2
      replace hx0 := (HP.out.bel.cell (World.block_lt_of_cell? w _ hx0)).trans hx0
      replace hx1 := (HP.out.bel.cell (World.block_lt_of_cell? w _ hx1)).trans hx1
      replace hx2 := (HP.out.bel.cell (World.block_lt_of_cell? w _ hx2)).trans hx2
      have HXS := Aside0.mk (show [a0_0, a0_1, a0_2, a0_3, a0_4, a0_5, (l0_7.length : Int)] ++ flagsOf (l0_8.take (i + 1)) = xs ++ [if l0_8[i].f2 = true then 1 else 0] from by rw [hxs.out, flags_step hlt, ← List.append_assoc])
      have HTS := Aside0.mk (show ([a0_6] ++ l0_7) ++ pairsOf (l0_8.take (i + 1)) = ts ++ [l0_8[i].f0, l0_8[i].f1] from by rw [hts.out, pairs_step hlt, ← List.append_assoc])
      have HXL : Aside0 (xs.length ≤ 1000010) := ⟨by rw [hxs.out]; simp [flagsOf]; omega⟩
      have HTL : Aside0 (ts.length ≤ 3000010) := ⟨by rw [hts.out]; simp [pairs_len]; omega⟩
      have HI := Aside0.mk (show x + 1 = ((i + 1 : Nat) : Int) from by omega)
      have HW : Aside0 (wrap64 (x + 1) = x + 1) := ⟨wrap_id (by omega) (by omega)⟩
      have HLT := Aside0.mk hlt
      obtain ⟨t0, ht0⟩ : ∃ t, t = l0_8[i].f0 := ⟨_, rfl⟩
      obtain ⟨t1, ht1⟩ : ∃ t, t = l0_8[i].f1 := ⟨_, rfl⟩
      obtain ⟨bq, hbq⟩ : ∃ b, b = l0_8[i].f2 := ⟨_, rfl⟩
      rw [← ht0] at hx0 HTS
      rw [← ht1] at hx1 HTS
      rw [← hbq] at hx2 HXS
      replace p118 := eq_true p118
      replace q118 := eq_true q118
      clear ht0 ht1 hbq hrd hxi hile hlt
      obtain ⟨AN, cN, eN⟩ := Kd.R_slice HP.out.ns
      subst eN
      obtain ⟨AT, cT, eT⟩ := Kd.R_slice HP.out.ts
      subst eT
      cases bq with
      |true =>
       have HP1 := Aside0.mk (HP.out.drew)
       go_wp2_with (first | ((with_reducible refine gate_dst (N := 7) rfl ?_); refine box_event ?hg (N := 7) ?hd (cs := #[.string (⟨#[]⟩ : ByteArray), .string (⟨#[]⟩ : ByteArray), .bool false]) (t := 49) ?hr ?_; (case hd => rfl); (case hg => rfl); (case hr => first | (go_simp; done) | (go_simp; rfl)); intro g7 hg w7 hbox hb; have HP7 := Aside0.mk (HP.out.below hb); have B7 := Aside0.mk hbox; have G7 : Aside0 (w.heap.size ≤ g7) := ⟨by rw [hg]; exact HP.out.bel.size⟩; replace hx0 := (hb.cell (World.block_lt_of_cell? _ _ hx0)).trans hx0; replace hx1 := (hb.cell (World.block_lt_of_cell? _ _ hx1)).trans hx1; replace hx2 := (hb.cell (World.block_lt_of_cell? _ _ hx2)).trans hx2; clear hg hb hbox HP; have hz0 : w7.cell? ⟨g7, 0, none⟩ = some (.string ⟨#[]⟩) := (blk_cell B7.out 0).trans rfl; have hz1 : w7.cell? ⟨g7, 1, none⟩ = some (.string ⟨#[]⟩) := (blk_cell B7.out 1).trans rfl; have hz2 : w7.cell? ⟨g7, 2, none⟩ = some (.bool false) := (blk_cell B7.out 2).trans rfl; have hzf0 := blk_frozen B7.out 0; have hzf1 := blk_frozen B7.out 1; have hzf2 := blk_frozen B7.out 2))
       have H7 := Aside0.mk (show (((w7.setCell ⟨g7, 0, none⟩ (.string t0)).setCell ⟨g7, 1, none⟩ (.string t1)).setCell ⟨g7, 2, none⟩ (.bool true)).drew.heap[g7]? = some (.cells #[.string t0, .string t1, .bool true] 49 (0, 0)) from blk_drew (blk_set (blk_set (blk_set B7.out 0 (.string t0)) 1 (.string t1)) 2 (.bool true)))
       have HPs := Aside0.mk ((((HP7.out.set B7.out G7.out 0 (.string t0)).set (blk_set B7.out 0 _) G7.out 1 (.string t1)).set (blk_set (blk_set B7.out 0 _) 1 _) G7.out 2 (.bool true)).drew)
       have HL := Aside0.mk HPs.out.bl
       have HPB := Aside0.mk HPs.out.bp
       have FN := Aside0.mk HPs.out.ns
       have FT := Aside0.mk HPs.out.ts
       have HB := Aside0.mk HPs.out.bel
       have HG := Aside0.mk HPs.out.gep
       clear HPs HP7 B7 G7 hz0 hz1 hz2 hzf0 hzf1 hzf2 hx0 hx1 hx2
       refine wp_region_noPanic ?_
       refine rt_begin (S := (fun W => W.heap[gp]? = some (.cells #[.slice AN xs.length cN, .slice AT ts.length cT] 47 (0, 0)) ∧ W.heap[g7]? = some (.cells #[.string t0, .string t1, .bool true] 49 (0, 0)))) (s := 14) (by kernel_rfl) ?_
       refine AnyT.taken (i := 0) (v := ?v125) rfl (by kernel_rfl) (by kernel_rfl) (by kernel_rfl) (by kernel_rfl) (fun _ _ _ h => h) (Or.inl ⟨by rfl, ?y125⟩) ?s125 ?_
       case y125 =>
        intro wSW hSW
        (have y0 : wSW.cell? ⟨gp, 0, none⟩ = some (.slice AN xs.length cN) := (blk_cell hSW.1 0).trans rfl; have y1 : wSW.cell? ⟨gp, 1, none⟩ = some (.slice AT ts.length cT) := (blk_cell hSW.1 1).trans rfl; have y2 : wSW.cell? ⟨g7, 0, none⟩ = some (.string t0) := (blk_cell hSW.2 0).trans rfl; have y3 : wSW.cell? ⟨g7, 1, none⟩ = some (.string t1) := (blk_cell hSW.2 1).trans rfl; go_simp)
        all_goals with_reducible rfl
       case s125 => exact ⟨HPB.out, H7.out⟩
       try simp only [Act.put, List.setIfInBounds_toArray, List.set_cons_zero, List.set_cons_succ]
       refine AnyT.taken (i := 1) (v := ?v126) rfl (by kernel_rfl) (by kernel_rfl) (by kernel_rfl) (by kernel_rfl) (fun _ _ _ h => h) (Or.inl ⟨by rfl, ?y126⟩) ?s126 ?_
       case y126 =>
        intro wSW hSW
        (have y0 : wSW.cell? ⟨gp, 0, none⟩ = some (.slice AN xs.length cN) := (blk_cell hSW.1 0).trans rfl; have y1 : wSW.cell? ⟨gp, 1, none⟩ = some (.slice AT ts.length cT) := (blk_cell hSW.1 1).trans rfl; have y2 : wSW.cell? ⟨g7, 0, none⟩ = some (.string t0) := (blk_cell hSW.2 0).trans rfl; have y3 : wSW.cell? ⟨g7, 1, none⟩ = some (.string t1) := (blk_cell hSW.2 1).trans rfl; go_simp)
        all_goals with_reducible rfl
       case s126 => exact ⟨HPB.out, H7.out⟩
       try simp only [Act.put, List.setIfInBounds_toArray, List.set_cons_zero, List.set_cons_succ]
       refine AnyT.taken (i := 2) (v := ?v127) rfl (by kernel_rfl) (by kernel_rfl) (by kernel_rfl) (by kernel_rfl) (fun _ _ _ h => h) (Or.inl ⟨by rfl, ?y127⟩) ?s127 ?_
       case y127 =>
        intro wSW hSW
        (have y0 : wSW.cell? ⟨gp, 0, none⟩ = some (.slice AN xs.length cN) := (blk_cell hSW.1 0).trans rfl; have y1 : wSW.cell? ⟨gp, 1, none⟩ = some (.slice AT ts.length cT) := (blk_cell hSW.1 1).trans rfl; have y2 : wSW.cell? ⟨g7, 0, none⟩ = some (.string t0) := (blk_cell hSW.2 0).trans rfl; have y3 : wSW.cell? ⟨g7, 1, none⟩ = some (.string t1) := (blk_cell hSW.2 1).trans rfl; go_simp)
        all_goals with_reducible rfl
       case s127 => exact ⟨HPB.out, H7.out⟩
       try simp only [Act.put, List.setIfInBounds_toArray, List.set_cons_zero, List.set_cons_succ]
       refine AnyT.taken (i := 5) (v := ?v128) rfl (by kernel_rfl) (by kernel_rfl) (by kernel_rfl) (by kernel_rfl) (fun _ _ _ h => h) (Or.inl ⟨by rfl, ?y128⟩) ?s128 ?_
       case y128 =>
        intro wSW hSW
        (have y0 : wSW.cell? ⟨gp, 0, none⟩ = some (.slice AN xs.length cN) := (blk_cell hSW.1 0).trans rfl; have y1 : wSW.cell? ⟨gp, 1, none⟩ = some (.slice AT ts.length cT) := (blk_cell hSW.1 1).trans rfl; have y2 : wSW.cell? ⟨g7, 0, none⟩ = some (.string t0) := (blk_cell hSW.2 0).trans rfl; have y3 : wSW.cell? ⟨g7, 1, none⟩ = some (.string t1) := (blk_cell hSW.2 1).trans rfl; go_simp)
        all_goals with_reducible rfl
       case s128 => exact ⟨HPB.out, H7.out⟩
       try simp only [Act.put, List.setIfInBounds_toArray, List.set_cons_zero, List.set_cons_succ]
       refine AnyT.taken (i := 6) (v := ?v129) rfl (by kernel_rfl) (by kernel_rfl) (by kernel_rfl) (by kernel_rfl) (fun _ _ _ h => h) (Or.inl ⟨by rfl, ?y129⟩) ?s129 ?_
       case y129 =>
        intro wSW hSW
        (have y0 : wSW.cell? ⟨gp, 0, none⟩ = some (.slice AN xs.length cN) := (blk_cell hSW.1 0).trans rfl; have y1 : wSW.cell? ⟨gp, 1, none⟩ = some (.slice AT ts.length cT) := (blk_cell hSW.1 1).trans rfl; have y2 : wSW.cell? ⟨g7, 0, none⟩ = some (.string t0) := (blk_cell hSW.2 0).trans rfl; have y3 : wSW.cell? ⟨g7, 1, none⟩ = some (.string t1) := (blk_cell hSW.2 1).trans rfl; go_simp)
        all_goals with_reducible rfl
       case s129 => exact ⟨HPB.out, H7.out⟩
       try simp only [Act.put, List.setIfInBounds_toArray, List.set_cons_zero, List.set_cons_succ]
       refine AnyT.taken (i := 7) (v := ?v130) rfl (by kernel_rfl) (by kernel_rfl) (by kernel_rfl) (by kernel_rfl) (fun _ _ _ h => h) (Or.inl ⟨by rfl, ?y130⟩) ?s130 ?_
       case y130 =>
        intro wSW hSW
        (have y0 : wSW.cell? ⟨gp, 0, none⟩ = some (.slice AN xs.length cN) := (blk_cell hSW.1 0).trans rfl; have y1 : wSW.cell? ⟨gp, 1, none⟩ = some (.slice AT ts.length cT) := (blk_cell hSW.1 1).trans rfl; have y2 : wSW.cell? ⟨g7, 0, none⟩ = some (.string t0) := (blk_cell hSW.2 0).trans rfl; have y3 : wSW.cell? ⟨g7, 1, none⟩ = some (.string t1) := (blk_cell hSW.2 1).trans rfl; go_simp)
        all_goals with_reducible rfl
       case s130 => exact ⟨HPB.out, H7.out⟩
       try simp only [Act.put, List.setIfInBounds_toArray, List.set_cons_zero, List.set_cons_succ]
       refine AnyT.taken (i := 8) (v := ?v131) rfl (by kernel_rfl) (by kernel_rfl) (by kernel_rfl) (by kernel_rfl) (fun _ _ _ h => h) (Or.inl ⟨by rfl, ?y131⟩) ?s131 ?_
       case y131 =>
        intro wSW hSW
        (have y0 : wSW.cell? ⟨gp, 0, none⟩ = some (.slice AN xs.length cN) := (blk_cell hSW.1 0).trans rfl; have y1 : wSW.cell? ⟨gp, 1, none⟩ = some (.slice AT ts.length cT) := (blk_cell hSW.1 1).trans rfl; have y2 : wSW.cell? ⟨g7, 0, none⟩ = some (.string t0) := (blk_cell hSW.2 0).trans rfl; have y3 : wSW.cell? ⟨g7, 1, none⟩ = some (.string t1) := (blk_cell hSW.2 1).trans rfl; go_simp)
        all_goals with_reducible rfl
       case s131 => exact ⟨HPB.out, H7.out⟩
       try simp only [Act.put, List.setIfInBounds_toArray, List.set_cons_zero, List.set_cons_succ]
       refine AnyT.taken (i := 9) (v := ?v132) rfl (by kernel_rfl) (by kernel_rfl) (by kernel_rfl) (by kernel_rfl) (fun _ _ _ h => h) (Or.inl ⟨by rfl, ?y132⟩) ?s132 ?_
       case y132 =>
        intro wSW hSW
        (have y0 : wSW.cell? ⟨gp, 0, none⟩ = some (.slice AN xs.length cN) := (blk_cell hSW.1 0).trans rfl; have y1 : wSW.cell? ⟨gp, 1, none⟩ = some (.slice AT ts.length cT) := (blk_cell hSW.1 1).trans rfl; have y2 : wSW.cell? ⟨g7, 0, none⟩ = some (.string t0) := (blk_cell hSW.2 0).trans rfl; have y3 : wSW.cell? ⟨g7, 1, none⟩ = some (.string t1) := (blk_cell hSW.2 1).trans rfl; go_simp)
        all_goals with_reducible rfl
       case s132 => exact ⟨HPB.out, H7.out⟩
       try simp only [Act.put, List.setIfInBounds_toArray, List.set_cons_zero, List.set_cons_succ]
       refine AnyT.taken (i := 10) (v := ?v133) rfl (by kernel_rfl) (by kernel_rfl) (by kernel_rfl) (by kernel_rfl) (fun _ _ _ h => h) (Or.inl ⟨by rfl, ?y133⟩) ?s133 ?_
       case y133 =>
        intro wSW hSW
        (have y0 : wSW.cell? ⟨gp, 0, none⟩ = some (.slice AN xs.length cN) := (blk_cell hSW.1 0).trans rfl; have y1 : wSW.cell? ⟨gp, 1, none⟩ = some (.slice AT ts.length cT) := (blk_cell hSW.1 1).trans rfl; have y2 : wSW.cell? ⟨g7, 0, none⟩ = some (.string t0) := (blk_cell hSW.2 0).trans rfl; have y3 : wSW.cell? ⟨g7, 1, none⟩ = some (.string t1) := (blk_cell hSW.2 1).trans rfl; go_simp)
        all_goals with_reducible rfl
       case s133 => exact ⟨HPB.out, H7.out⟩
       try simp only [Act.put, List.setIfInBounds_toArray, List.set_cons_zero, List.set_cons_succ]
       refine AnyT.ready (rs := [3, 11]) (by kernel_rfl) (by simp) (AllT.step rfl (fun K hK => ?b13403) (AllT.step rfl (fun K hK => ?b13411) AllT.nil))
       case b13403 =>
        (refine Kd.R_lit_step (Kd.int .i64) (w0 := w) w.heap.size 3 (by rfl) (N := 49) (by rfl) (xs := [1]) (inner := [.int .i64 1]) (ok := fun _ => True) (okp := fun _ => True) ?hr (reps_ints _ _ _ [1]) (fun _ h => h) trivial HB.out HB.out.size (by simp) ?_; (case hr => first | (go_simp; done) | (go_simp; rfl)); intro vx w9 ho hb hg hat; (try replace FA := Aside0.mk (Kd.R_grown FA.out hg (fun _ _ => by simp))); (try replace FL := Aside0.mk (Kd.R_grown FL.out hg (fun _ _ => by simp))); replace FN := Aside0.mk (Kd.R_grown FN.out hg (fun _ _ => by simp)); replace FT := Aside0.mk (Kd.R_grown FT.out hg (fun _ _ => by simp)); replace HPB := Aside0.mk (blk_grown HPB.out hg (by simp)); replace H7 := Aside0.mk (blk_grown H7.out hg (by simp)); replace HL := Aside0.mk (blk_grown HL.out hg (by simp)); replace HB := Aside0.mk hb; obtain ⟨A49, c49, e9⟩ := Kd.R_slice ho; subst e9; have FA := Aside0.mk ho; clear ho hb hg hat)
        refine hK.out _ _ ?_ ?_
        ·intro _; exact ⟨HPB.out, H7.out⟩
        clear hK K
        try simp only [Act.put, List.setIfInBounds_toArray, List.set_cons_zero, List.set_cons_succ]
        refine AnyT.ready (rs := [4, 11]) (by kernel_rfl) (by simp) (AllT.step rfl (fun K hK => ?b13604) (AllT.step rfl (fun K hK => ?b13611) AllT.nil))
        case b13604 =>
         (refine Kd.R_append_rows_step (Kd.int .i64) (w0 := w) w.heap.size (by rfl) (.tmp 47) (.tmp 49) 45 3 (.int .i64 0) 8 (by rfl) Try.underlying45 info3 rfl (by decide) (by omega) (.slice AN xs.length cN) xs [1] _ _ _ (fun _ => True) (fun _ => False) (by rfl) (by rfl) FN.out (Kd.R_reads' FA.out).2.2 (fun _ _ h => h) (fun _ h => h.elim) (fun _ _ => trivial) HB.out HB.out.size (by have h1 := HXL.out; have h2 := HTL.out; simp only [List.length_cons, List.length_nil]; omega) ?_; intro vx w9 ho hb hg hat; (try replace FT := Aside0.mk (Kd.R_over FT.out FN.out (by decide) hg)); (try replace FL := Aside0.mk (Kd.R_over FL.out FN.out (by decide) hg)); replace HPB := Aside0.mk (blk_grown HPB.out hg (Kd.R_ne FN.out HPB.out (by decide))); replace H7 := Aside0.mk (blk_grown H7.out hg (Kd.R_ne FN.out H7.out (by decide))); replace HL := Aside0.mk (blk_grown HL.out hg (Kd.R_ne FN.out HL.out (by decide))); replace HB := Aside0.mk hb; obtain ⟨A50, c50, e9⟩ := Kd.R_slice ho; simp only [List.length_append, List.length_cons, List.length_nil, Nat.zero_add, Nat.reduceAdd] at e9; subst e9; replace FN := Aside0.mk ho; clear ho hb hg hat FA)
         refine hK.out _ _ ?_ ?_
         ·intro _; exact ⟨HPB.out, H7.out⟩
         clear hK K
         try simp only [Act.put, List.setIfInBounds_toArray, List.set_cons_zero, List.set_cons_succ]
         refine AnyT.taken (i := 13) (v := ?v138) rfl (by kernel_rfl) (by kernel_rfl) (by kernel_rfl) (by kernel_rfl) (fun _ _ _ h => h) (Or.inl ⟨by rfl, ?y138⟩) ?s138 ?_
         case y138 =>
          intro wSW hSW
          (have y0 : wSW.cell? ⟨gp, 0, none⟩ = some (.slice AN xs.length cN) := (blk_cell hSW.1 0).trans rfl; have y1 : wSW.cell? ⟨gp, 1, none⟩ = some (.slice AT ts.length cT) := (blk_cell hSW.1 1).trans rfl; have y2 : wSW.cell? ⟨g7, 0, none⟩ = some (.string t0) := (blk_cell hSW.2 0).trans rfl; have y3 : wSW.cell? ⟨g7, 1, none⟩ = some (.string t1) := (blk_cell hSW.2 1).trans rfl; go_simp)
          all_goals with_reducible rfl
         case s138 => exact ⟨HPB.out, H7.out⟩
         try simp only [Act.put, List.setIfInBounds_toArray, List.set_cons_zero, List.set_cons_succ]
         refine AnyT.ready (rs := [11]) (by kernel_rfl) (by simp) (AllT.step rfl (fun K hK => ?b13911) AllT.nil)
         case b13911 =>
          (refine Kd.R_lit_step Kd.string (w0 := w) w.heap.size 9 (by rfl) (N := 57) (by rfl) (xs := [t0, t1]) (inner := [.string t0, .string t1]) (ok := fun _ => True) (okp := fun _ => True) ?hr (reps_texts _ _ _ [t0, t1]) (fun _ h => h) trivial HB.out HB.out.size (by simp) ?_; (case hr => first | (go_simp; done) | (go_simp; rfl)); intro vx w9 ho hb hg hat; (try replace FA := Aside0.mk (Kd.R_grown FA.out hg (fun _ _ => by simp))); (try replace FL := Aside0.mk (Kd.R_grown FL.out hg (fun _ _ => by simp))); replace FN := Aside0.mk (Kd.R_grown FN.out hg (fun _ _ => by simp)); replace FT := Aside0.mk (Kd.R_grown FT.out hg (fun _ _ => by simp)); replace HPB := Aside0.mk (blk_grown HPB.out hg (by simp)); replace H7 := Aside0.mk (blk_grown H7.out hg (by simp)); replace HL := Aside0.mk (blk_grown HL.out hg (by simp)); replace HB := Aside0.mk hb; obtain ⟨A57, c57, e9⟩ := Kd.R_slice ho; subst e9; have FL := Aside0.mk ho; clear ho hb hg hat)
          refine hK.out _ _ ?_ ?_
          ·intro _; exact ⟨HPB.out, H7.out⟩
          clear hK K
          try simp only [Act.put, List.setIfInBounds_toArray, List.set_cons_zero, List.set_cons_succ]
          refine AnyT.ready (rs := [12]) (by kernel_rfl) (by simp) (AllT.step rfl (fun K hK => ?b14112) AllT.nil)
          case b14112 =>
           (refine Kd.R_append_rows_step Kd.string (w0 := w) w.heap.size (by rfl) (.tmp 52) (.tmp 57) 22 9 (.string ⟨#[]⟩) 16 (by rfl) Try.underlying22 info9 rfl (by decide) (by omega) (.slice AT ts.length cT) ts [t0, t1] _ _ _ (fun _ => True) (fun _ => False) (by rfl) (by rfl) FT.out (Kd.R_reads' FL.out).2.2 (fun _ _ h => h) (fun _ h => h.elim) (fun _ _ => trivial) HB.out HB.out.size (by have h1 := HXL.out; have h2 := HTL.out; simp only [List.length_cons, List.length_nil]; omega) ?_; intro vx w9 ho hb hg hat; (try replace FN := Aside0.mk (Kd.R_over FN.out FT.out (by decide) hg)); replace HPB := Aside0.mk (blk_grown HPB.out hg (Kd.R_ne FT.out HPB.out (by decide))); replace H7 := Aside0.mk (blk_grown H7.out hg (Kd.R_ne FT.out H7.out (by decide))); replace HL := Aside0.mk (blk_grown HL.out hg (Kd.R_ne FT.out HL.out (by decide))); replace HB := Aside0.mk hb; obtain ⟨A58, c58, e9⟩ := Kd.R_slice ho; simp only [List.length_append, List.length_cons, List.length_nil, Nat.zero_add, Nat.reduceAdd] at e9; subst e9; replace FT := Aside0.mk ho; clear ho hb hg hat FL)
           refine hK.out _ _ ?_ ?_
           ·intro _; exact ⟨HPB.out, H7.out⟩
           clear hK K
           try simp only [Act.put, List.setIfInBounds_toArray, List.set_cons_zero, List.set_cons_succ]
           refine AnyT.ready (rs := [14]) (by kernel_rfl) (by simp) (AllT.step rfl (fun K hK => ?b14314) AllT.nil)
           case b14314 =>
            (have hs0 : w9.cell? ⟨gp, 0, none⟩ = some (.slice AN xs.length cN) := (blk_cell HPB.out 0).trans rfl; have hf0 := blk_frozen HPB.out 0; go_simp)
            refine hK.out _ _ ?_ ?_
            ·exact past (by kernel_rfl)
            clear hK K
            try simp only [Act.put, List.setIfInBounds_toArray, List.set_cons_zero, List.set_cons_succ]
            refine AnyT.ready (rs := [15]) (by kernel_rfl) (by simp) (AllT.step rfl (fun K hK => ?b14515) AllT.nil)
            case b14515 =>
             go_simp
             refine hK.out _ _ ?_ ?_
             ·exact past (by kernel_rfl)
             clear hK K
             try simp only [Act.put, List.setIfInBounds_toArray, List.set_cons_zero, List.set_cons_succ]
             refine AnyT.ready (rs := [16]) (by kernel_rfl) (by simp) (AllT.step rfl (fun K hK => ?b14716) AllT.nil)
             case b14716 =>
              (have hs1 : (w9.setCell ⟨gp, 0, none⟩ (.slice A50 (xs.length + 1) c50)).cell? ⟨gp, 1, none⟩ = some (.slice AT ts.length cT) := (blk_cell (blk_set HPB.out 0 (.slice A50 (xs.length + 1) c50)) 1).trans rfl; have hf1 := blk_frozen (blk_set HPB.out 0 (.slice A50 (xs.length + 1) c50)) 1; go_simp)
              refine hK.out _ _ ?_ ?_
              ·exact past (by kernel_rfl)
              clear hK K
              try simp only [Act.put, List.setIfInBounds_toArray, List.set_cons_zero, List.set_cons_succ]
              refine AnyT.done (by kernel_rfl) ?_ _
              refine NoPanic.normal ?_
              (have HE := Aside0.mk (PE.of HL.out HB.out FN.out FT.out HPB.out HG.out); have hm := Aside0.mk (round_less hx.out HLT.out); clear FN FT HPB HB H7 HL HG; go_wp2; rw [HW.out]; exact ⟨⟨i + 1, x + 1, xs ++ [1], ts ++ [t0, t1], _, _, rfl, HI, ⟨HLT.out⟩, ⟨HXS.out.symm⟩, ⟨HTS.out.symm⟩, HE⟩, hm.out⟩)
        case b13611 =>
         (refine Kd.R_lit_step Kd.string (w0 := w) w.heap.size 9 (by rfl) (N := 57) (by rfl) (xs := [t0, t1]) (inner := [.string t0, .string t1]) (ok := fun _ => True) (okp := fun _ => True) ?hr (reps_texts _ _ _ [t0, t1]) (fun _ h => h) trivial HB.out HB.out.size (by simp) ?_; (case hr => first | (go_simp; done) | (go_simp; rfl)); intro vx w9 ho hb hg hat; (try replace FA := Aside0.mk (Kd.R_grown FA.out hg (fun _ _ => by simp))); (try replace FL := Aside0.mk (Kd.R_grown FL.out hg (fun _ _ => by simp))); replace FN := Aside0.mk (Kd.R_grown FN.out hg (fun _ _ => by simp)); replace FT := Aside0.mk (Kd.R_grown FT.out hg (fun _ _ => by simp)); replace HPB := Aside0.mk (blk_grown HPB.out hg (by simp)); replace H7 := Aside0.mk (blk_grown H7.out hg (by simp)); replace HL := Aside0.mk (blk_grown HL.out hg (by simp)); replace HB := Aside0.mk hb; obtain ⟨A57, c57, e9⟩ := Kd.R_slice ho; subst e9; have FL := Aside0.mk ho; clear ho hb hg hat)
         refine hK.out _ _ ?_ ?_
         ·intro _; exact ⟨HPB.out, H7.out⟩
         clear hK K
         try simp only [Act.put, List.setIfInBounds_toArray, List.set_cons_zero, List.set_cons_succ]
         refine AnyT.ready (rs := [4]) (by kernel_rfl) (by simp) (AllT.step rfl (fun K hK => ?b15104) AllT.nil)
         case b15104 =>
          (refine Kd.R_append_rows_step (Kd.int .i64) (w0 := w) w.heap.size (by rfl) (.tmp 47) (.tmp 49) 45 3 (.int .i64 0) 8 (by rfl) Try.underlying45 info3 rfl (by decide) (by omega) (.slice AN xs.length cN) xs [1] _ _ _ (fun _ => True) (fun _ => False) (by rfl) (by rfl) FN.out (Kd.R_reads' FA.out).2.2 (fun _ _ h => h) (fun _ h => h.elim) (fun _ _ => trivial) HB.out HB.out.size (by have h1 := HXL.out; have h2 := HTL.out; simp only [List.length_cons, List.length_nil]; omega) ?_; intro vx w9 ho hb hg hat; (try replace FT := Aside0.mk (Kd.R_over FT.out FN.out (by decide) hg)); (try replace FL := Aside0.mk (Kd.R_over FL.out FN.out (by decide) hg)); replace HPB := Aside0.mk (blk_grown HPB.out hg (Kd.R_ne FN.out HPB.out (by decide))); replace H7 := Aside0.mk (blk_grown H7.out hg (Kd.R_ne FN.out H7.out (by decide))); replace HL := Aside0.mk (blk_grown HL.out hg (Kd.R_ne FN.out HL.out (by decide))); replace HB := Aside0.mk hb; obtain ⟨A50, c50, e9⟩ := Kd.R_slice ho; simp only [List.length_append, List.length_cons, List.length_nil, Nat.zero_add, Nat.reduceAdd] at e9; subst e9; replace FN := Aside0.mk ho; clear ho hb hg hat FA)
          refine hK.out _ _ ?_ ?_
          ·intro _; exact ⟨HPB.out, H7.out⟩
          clear hK K
          try simp only [Act.put, List.setIfInBounds_toArray, List.set_cons_zero, List.set_cons_succ]
          refine AnyT.taken (i := 13) (v := ?v153) rfl (by kernel_rfl) (by kernel_rfl) (by kernel_rfl) (by kernel_rfl) (fun _ _ _ h => h) (Or.inl ⟨by rfl, ?y153⟩) ?s153 ?_
          case y153 =>
           intro wSW hSW
           (have y0 : wSW.cell? ⟨gp, 0, none⟩ = some (.slice AN xs.length cN) := (blk_cell hSW.1 0).trans rfl; have y1 : wSW.cell? ⟨gp, 1, none⟩ = some (.slice AT ts.length cT) := (blk_cell hSW.1 1).trans rfl; have y2 : wSW.cell? ⟨g7, 0, none⟩ = some (.string t0) := (blk_cell hSW.2 0).trans rfl; have y3 : wSW.cell? ⟨g7, 1, none⟩ = some (.string t1) := (blk_cell hSW.2 1).trans rfl; go_simp)
           all_goals with_reducible rfl
          case s153 => exact ⟨HPB.out, H7.out⟩
          try simp only [Act.put, List.setIfInBounds_toArray, List.set_cons_zero, List.set_cons_succ]
          refine AnyT.ready (rs := [12]) (by kernel_rfl) (by simp) (AllT.step rfl (fun K hK => ?b15412) AllT.nil)
          case b15412 =>
           (refine Kd.R_append_rows_step Kd.string (w0 := w) w.heap.size (by rfl) (.tmp 52) (.tmp 57) 22 9 (.string ⟨#[]⟩) 16 (by rfl) Try.underlying22 info9 rfl (by decide) (by omega) (.slice AT ts.length cT) ts [t0, t1] _ _ _ (fun _ => True) (fun _ => False) (by rfl) (by rfl) FT.out (Kd.R_reads' FL.out).2.2 (fun _ _ h => h) (fun _ h => h.elim) (fun _ _ => trivial) HB.out HB.out.size (by have h1 := HXL.out; have h2 := HTL.out; simp only [List.length_cons, List.length_nil]; omega) ?_; intro vx w9 ho hb hg hat; (try replace FN := Aside0.mk (Kd.R_over FN.out FT.out (by decide) hg)); replace HPB := Aside0.mk (blk_grown HPB.out hg (Kd.R_ne FT.out HPB.out (by decide))); replace H7 := Aside0.mk (blk_grown H7.out hg (Kd.R_ne FT.out H7.out (by decide))); replace HL := Aside0.mk (blk_grown HL.out hg (Kd.R_ne FT.out HL.out (by decide))); replace HB := Aside0.mk hb; obtain ⟨A58, c58, e9⟩ := Kd.R_slice ho; simp only [List.length_append, List.length_cons, List.length_nil, Nat.zero_add, Nat.reduceAdd] at e9; subst e9; replace FT := Aside0.mk ho; clear ho hb hg hat FL)
           refine hK.out _ _ ?_ ?_
           ·intro _; exact ⟨HPB.out, H7.out⟩
           clear hK K
           try simp only [Act.put, List.setIfInBounds_toArray, List.set_cons_zero, List.set_cons_succ]
           refine AnyT.ready (rs := [14]) (by kernel_rfl) (by simp) (AllT.step rfl (fun K hK => ?b15614) AllT.nil)
           case b15614 =>
            (have hs0 : w9.cell? ⟨gp, 0, none⟩ = some (.slice AN xs.length cN) := (blk_cell HPB.out 0).trans rfl; have hf0 := blk_frozen HPB.out 0; go_simp)
            refine hK.out _ _ ?_ ?_
            ·exact past (by kernel_rfl)
            clear hK K
            try simp only [Act.put, List.setIfInBounds_toArray, List.set_cons_zero, List.set_cons_succ]
            refine AnyT.ready (rs := [15]) (by kernel_rfl) (by simp) (AllT.step rfl (fun K hK => ?b15815) AllT.nil)
            case b15815 =>
             go_simp
             refine hK.out _ _ ?_ ?_
             ·exact past (by kernel_rfl)
             clear hK K
             try simp only [Act.put, List.setIfInBounds_toArray, List.set_cons_zero, List.set_cons_succ]
             refine AnyT.ready (rs := [16]) (by kernel_rfl) (by simp) (AllT.step rfl (fun K hK => ?b16016) AllT.nil)
             case b16016 =>
              (have hs1 : (w9.setCell ⟨gp, 0, none⟩ (.slice A50 (xs.length + 1) c50)).cell? ⟨gp, 1, none⟩ = some (.slice AT ts.length cT) := (blk_cell (blk_set HPB.out 0 (.slice A50 (xs.length + 1) c50)) 1).trans rfl; have hf1 := blk_frozen (blk_set HPB.out 0 (.slice A50 (xs.length + 1) c50)) 1; go_simp)
              refine hK.out _ _ ?_ ?_
              ·exact past (by kernel_rfl)
              clear hK K
              try simp only [Act.put, List.setIfInBounds_toArray, List.set_cons_zero, List.set_cons_succ]
              refine AnyT.done (by kernel_rfl) ?_ _
              refine NoPanic.normal ?_
              (have HE := Aside0.mk (PE.of HL.out HB.out FN.out FT.out HPB.out HG.out); have hm := Aside0.mk (round_less hx.out HLT.out); clear FN FT HPB HB H7 HL HG; go_wp2; rw [HW.out]; exact ⟨⟨i + 1, x + 1, xs ++ [1], ts ++ [t0, t1], _, _, rfl, HI, ⟨HLT.out⟩, ⟨HXS.out.symm⟩, ⟨HTS.out.symm⟩, HE⟩, hm.out⟩)
       case b13411 =>
        (refine Kd.R_lit_step Kd.string (w0 := w) w.heap.size 9 (by rfl) (N := 57) (by rfl) (xs := [t0, t1]) (inner := [.string t0, .string t1]) (ok := fun _ => True) (okp := fun _ => True) ?hr (reps_texts _ _ _ [t0, t1]) (fun _ h => h) trivial HB.out HB.out.size (by simp) ?_; (case hr => first | (go_simp; done) | (go_simp; rfl)); intro vx w9 ho hb hg hat; (try replace FA := Aside0.mk (Kd.R_grown FA.out hg (fun _ _ => by simp))); (try replace FL := Aside0.mk (Kd.R_grown FL.out hg (fun _ _ => by simp))); replace FN := Aside0.mk (Kd.R_grown FN.out hg (fun _ _ => by simp)); replace FT := Aside0.mk (Kd.R_grown FT.out hg (fun _ _ => by simp)); replace HPB := Aside0.mk (blk_grown HPB.out hg (by simp)); replace H7 := Aside0.mk (blk_grown H7.out hg (by simp)); replace HL := Aside0.mk (blk_grown HL.out hg (by simp)); replace HB := Aside0.mk hb; obtain ⟨A57, c57, e9⟩ := Kd.R_slice ho; subst e9; have FL := Aside0.mk ho; clear ho hb hg hat)
        refine hK.out _ _ ?_ ?_
        ·intro _; exact ⟨HPB.out, H7.out⟩
        clear hK K
        try simp only [Act.put, List.setIfInBounds_toArray, List.set_cons_zero, List.set_cons_succ]
        refine AnyT.ready (rs := [3]) (by kernel_rfl) (by simp) (AllT.step rfl (fun K hK => ?b16403) AllT.nil)
        case b16403 =>
         (refine Kd.R_lit_step (Kd.int .i64) (w0 := w) w.heap.size 3 (by rfl) (N := 49) (by rfl) (xs := [1]) (inner := [.int .i64 1]) (ok := fun _ => True) (okp := fun _ => True) ?hr (reps_ints _ _ _ [1]) (fun _ h => h) trivial HB.out HB.out.size (by simp) ?_; (case hr => first | (go_simp; done) | (go_simp; rfl)); intro vx w9 ho hb hg hat; (try replace FA := Aside0.mk (Kd.R_grown FA.out hg (fun _ _ => by simp))); (try replace FL := Aside0.mk (Kd.R_grown FL.out hg (fun _ _ => by simp))); replace FN := Aside0.mk (Kd.R_grown FN.out hg (fun _ _ => by simp)); replace FT := Aside0.mk (Kd.R_grown FT.out hg (fun _ _ => by simp)); replace HPB := Aside0.mk (blk_grown HPB.out hg (by simp)); replace H7 := Aside0.mk (blk_grown H7.out hg (by simp)); replace HL := Aside0.mk (blk_grown HL.out hg (by simp)); replace HB := Aside0.mk hb; obtain ⟨A49, c49, e9⟩ := Kd.R_slice ho; subst e9; have FA := Aside0.mk ho; clear ho hb hg hat)
         refine hK.out _ _ ?_ ?_
         ·intro _; exact ⟨HPB.out, H7.out⟩
         clear hK K
         try simp only [Act.put, List.setIfInBounds_toArray, List.set_cons_zero, List.set_cons_succ]
         refine AnyT.ready (rs := [4]) (by kernel_rfl) (by simp) (AllT.step rfl (fun K hK => ?b16604) AllT.nil)
         case b16604 =>
          (refine Kd.R_append_rows_step (Kd.int .i64) (w0 := w) w.heap.size (by rfl) (.tmp 47) (.tmp 49) 45 3 (.int .i64 0) 8 (by rfl) Try.underlying45 info3 rfl (by decide) (by omega) (.slice AN xs.length cN) xs [1] _ _ _ (fun _ => True) (fun _ => False) (by rfl) (by rfl) FN.out (Kd.R_reads' FA.out).2.2 (fun _ _ h => h) (fun _ h => h.elim) (fun _ _ => trivial) HB.out HB.out.size (by have h1 := HXL.out; have h2 := HTL.out; simp only [List.length_cons, List.length_nil]; omega) ?_; intro vx w9 ho hb hg hat; (try replace FT := Aside0.mk (Kd.R_over FT.out FN.out (by decide) hg)); (try replace FL := Aside0.mk (Kd.R_over FL.out FN.out (by decide) hg)); replace HPB := Aside0.mk (blk_grown HPB.out hg (Kd.R_ne FN.out HPB.out (by decide))); replace H7 := Aside0.mk (blk_grown H7.out hg (Kd.R_ne FN.out H7.out (by decide))); replace HL := Aside0.mk (blk_grown HL.out hg (Kd.R_ne FN.out HL.out (by decide))); replace HB := Aside0.mk hb; obtain ⟨A50, c50, e9⟩ := Kd.R_slice ho; simp only [List.length_append, List.length_cons, List.length_nil, Nat.zero_add, Nat.reduceAdd] at e9; subst e9; replace FN := Aside0.mk ho; clear ho hb hg hat FA)
          refine hK.out _ _ ?_ ?_
          ·intro _; exact ⟨HPB.out, H7.out⟩
          clear hK K
          try simp only [Act.put, List.setIfInBounds_toArray, List.set_cons_zero, List.set_cons_succ]
          refine AnyT.taken (i := 13) (v := ?v168) rfl (by kernel_rfl) (by kernel_rfl) (by kernel_rfl) (by kernel_rfl) (fun _ _ _ h => h) (Or.inl ⟨by rfl, ?y168⟩) ?s168 ?_
          case y168 =>
           intro wSW hSW
           (have y0 : wSW.cell? ⟨gp, 0, none⟩ = some (.slice AN xs.length cN) := (blk_cell hSW.1 0).trans rfl; have y1 : wSW.cell? ⟨gp, 1, none⟩ = some (.slice AT ts.length cT) := (blk_cell hSW.1 1).trans rfl; have y2 : wSW.cell? ⟨g7, 0, none⟩ = some (.string t0) := (blk_cell hSW.2 0).trans rfl; have y3 : wSW.cell? ⟨g7, 1, none⟩ = some (.string t1) := (blk_cell hSW.2 1).trans rfl; go_simp)
           all_goals with_reducible rfl
          case s168 => exact ⟨HPB.out, H7.out⟩
          try simp only [Act.put, List.setIfInBounds_toArray, List.set_cons_zero, List.set_cons_succ]
          refine AnyT.ready (rs := [12]) (by kernel_rfl) (by simp) (AllT.step rfl (fun K hK => ?b16912) AllT.nil)
          case b16912 =>
           (refine Kd.R_append_rows_step Kd.string (w0 := w) w.heap.size (by rfl) (.tmp 52) (.tmp 57) 22 9 (.string ⟨#[]⟩) 16 (by rfl) Try.underlying22 info9 rfl (by decide) (by omega) (.slice AT ts.length cT) ts [t0, t1] _ _ _ (fun _ => True) (fun _ => False) (by rfl) (by rfl) FT.out (Kd.R_reads' FL.out).2.2 (fun _ _ h => h) (fun _ h => h.elim) (fun _ _ => trivial) HB.out HB.out.size (by have h1 := HXL.out; have h2 := HTL.out; simp only [List.length_cons, List.length_nil]; omega) ?_; intro vx w9 ho hb hg hat; (try replace FN := Aside0.mk (Kd.R_over FN.out FT.out (by decide) hg)); replace HPB := Aside0.mk (blk_grown HPB.out hg (Kd.R_ne FT.out HPB.out (by decide))); replace H7 := Aside0.mk (blk_grown H7.out hg (Kd.R_ne FT.out H7.out (by decide))); replace HL := Aside0.mk (blk_grown HL.out hg (Kd.R_ne FT.out HL.out (by decide))); replace HB := Aside0.mk hb; obtain ⟨A58, c58, e9⟩ := Kd.R_slice ho; simp only [List.length_append, List.length_cons, List.length_nil, Nat.zero_add, Nat.reduceAdd] at e9; subst e9; replace FT := Aside0.mk ho; clear ho hb hg hat FL)
           refine hK.out _ _ ?_ ?_
           ·intro _; exact ⟨HPB.out, H7.out⟩
           clear hK K
           try simp only [Act.put, List.setIfInBounds_toArray, List.set_cons_zero, List.set_cons_succ]
           refine AnyT.ready (rs := [14]) (by kernel_rfl) (by simp) (AllT.step rfl (fun K hK => ?b17114) AllT.nil)
           case b17114 =>
            (have hs0 : w9.cell? ⟨gp, 0, none⟩ = some (.slice AN xs.length cN) := (blk_cell HPB.out 0).trans rfl; have hf0 := blk_frozen HPB.out 0; go_simp)
            refine hK.out _ _ ?_ ?_
            ·exact past (by kernel_rfl)
            clear hK K
            try simp only [Act.put, List.setIfInBounds_toArray, List.set_cons_zero, List.set_cons_succ]
            refine AnyT.ready (rs := [15]) (by kernel_rfl) (by simp) (AllT.step rfl (fun K hK => ?b17315) AllT.nil)
            case b17315 =>
             go_simp
             refine hK.out _ _ ?_ ?_
             ·exact past (by kernel_rfl)
             clear hK K
             try simp only [Act.put, List.setIfInBounds_toArray, List.set_cons_zero, List.set_cons_succ]
             refine AnyT.ready (rs := [16]) (by kernel_rfl) (by simp) (AllT.step rfl (fun K hK => ?b17516) AllT.nil)
             case b17516 =>
              (have hs1 : (w9.setCell ⟨gp, 0, none⟩ (.slice A50 (xs.length + 1) c50)).cell? ⟨gp, 1, none⟩ = some (.slice AT ts.length cT) := (blk_cell (blk_set HPB.out 0 (.slice A50 (xs.length + 1) c50)) 1).trans rfl; have hf1 := blk_frozen (blk_set HPB.out 0 (.slice A50 (xs.length + 1) c50)) 1; go_simp)
              refine hK.out _ _ ?_ ?_
              ·exact past (by kernel_rfl)
              clear hK K
              try simp only [Act.put, List.setIfInBounds_toArray, List.set_cons_zero, List.set_cons_succ]
              refine AnyT.done (by kernel_rfl) ?_ _
              refine NoPanic.normal ?_
              (have HE := Aside0.mk (PE.of HL.out HB.out FN.out FT.out HPB.out HG.out); have hm := Aside0.mk (round_less hx.out HLT.out); clear FN FT HPB HB H7 HL HG; go_wp2; rw [HW.out]; exact ⟨⟨i + 1, x + 1, xs ++ [1], ts ++ [t0, t1], _, _, rfl, HI, ⟨HLT.out⟩, ⟨HXS.out.symm⟩, ⟨HTS.out.symm⟩, HE⟩, hm.out⟩)
      |false =>
       have HP1 := Aside0.mk (HP.out.drew)
       go_wp2_with (first | ((with_reducible refine gate_dst (N := 7) rfl ?_); refine box_event ?hg (N := 7) ?hd (cs := #[.string (⟨#[]⟩ : ByteArray), .string (⟨#[]⟩ : ByteArray), .bool false]) (t := 49) ?hr ?_; (case hd => rfl); (case hg => rfl); (case hr => first | (go_simp; done) | (go_simp; rfl)); intro g7 hg w7 hbox hb; have HP7 := Aside0.mk (HP.out.below hb); have B7 := Aside0.mk hbox; have G7 : Aside0 (w.heap.size ≤ g7) := ⟨by rw [hg]; exact HP.out.bel.size⟩; replace hx0 := (hb.cell (World.block_lt_of_cell? _ _ hx0)).trans hx0; replace hx1 := (hb.cell (World.block_lt_of_cell? _ _ hx1)).trans hx1; replace hx2 := (hb.cell (World.block_lt_of_cell? _ _ hx2)).trans hx2; clear hg hb hbox HP; have hz0 : w7.cell? ⟨g7, 0, none⟩ = some (.string ⟨#[]⟩) := (blk_cell B7.out 0).trans rfl; have hz1 : w7.cell? ⟨g7, 1, none⟩ = some (.string ⟨#[]⟩) := (blk_cell B7.out 1).trans rfl; have hz2 : w7.cell? ⟨g7, 2, none⟩ = some (.bool false) := (blk_cell B7.out 2).trans rfl; have hzf0 := blk_frozen B7.out 0; have hzf1 := blk_frozen B7.out 1; have hzf2 := blk_frozen B7.out 2))
       have H7 := Aside0.mk (show (((w7.setCell ⟨g7, 0, none⟩ (.string t0)).setCell ⟨g7, 1, none⟩ (.string t1)).setCell ⟨g7, 2, none⟩ (.bool false)).drew.heap[g7]? = some (.cells #[.string t0, .string t1, .bool false] 49 (0, 0)) from blk_drew (blk_set (blk_set (blk_set B7.out 0 (.string t0)) 1 (.string t1)) 2 (.bool false)))
       have HPs := Aside0.mk ((((HP7.out.set B7.out G7.out 0 (.string t0)).set (blk_set B7.out 0 _) G7.out 1 (.string t1)).set (blk_set (blk_set B7.out 0 _) 1 _) G7.out 2 (.bool false)).drew)
       have HL := Aside0.mk HPs.out.bl
       have HPB := Aside0.mk HPs.out.bp
       have FN := Aside0.mk HPs.out.ns
       have FT := Aside0.mk HPs.out.ts
       have HB := Aside0.mk HPs.out.bel
       have HG := Aside0.mk HPs.out.gep
       clear HPs HP7 B7 G7 hz0 hz1 hz2 hzf0 hzf1 hzf2 hx0 hx1 hx2
       refine wp_region_noPanic ?_
       refine rt_begin (S := (fun W => W.heap[gp]? = some (.cells #[.slice AN xs.length cN, .slice AT ts.length cT] 47 (0, 0)) ∧ W.heap[g7]? = some (.cells #[.string t0, .string t1, .bool false] 49 (0, 0)))) (s := 14) (by kernel_rfl) ?_
       refine AnyT.taken (i := 0) (v := ?v178) rfl (by kernel_rfl) (by kernel_rfl) (by kernel_rfl) (by kernel_rfl) (fun _ _ _ h => h) (Or.inl ⟨by rfl, ?y178⟩) ?s178 ?_
       case y178 =>
        intro wSW hSW
        (have y0 : wSW.cell? ⟨gp, 0, none⟩ = some (.slice AN xs.length cN) := (blk_cell hSW.1 0).trans rfl; have y1 : wSW.cell? ⟨gp, 1, none⟩ = some (.slice AT ts.length cT) := (blk_cell hSW.1 1).trans rfl; have y2 : wSW.cell? ⟨g7, 0, none⟩ = some (.string t0) := (blk_cell hSW.2 0).trans rfl; have y3 : wSW.cell? ⟨g7, 1, none⟩ = some (.string t1) := (blk_cell hSW.2 1).trans rfl; go_simp)
        all_goals with_reducible rfl
       case s178 => exact ⟨HPB.out, H7.out⟩
       try simp only [Act.put, List.setIfInBounds_toArray, List.set_cons_zero, List.set_cons_succ]
       refine AnyT.taken (i := 1) (v := ?v179) rfl (by kernel_rfl) (by kernel_rfl) (by kernel_rfl) (by kernel_rfl) (fun _ _ _ h => h) (Or.inl ⟨by rfl, ?y179⟩) ?s179 ?_
       case y179 =>
        intro wSW hSW
        (have y0 : wSW.cell? ⟨gp, 0, none⟩ = some (.slice AN xs.length cN) := (blk_cell hSW.1 0).trans rfl; have y1 : wSW.cell? ⟨gp, 1, none⟩ = some (.slice AT ts.length cT) := (blk_cell hSW.1 1).trans rfl; have y2 : wSW.cell? ⟨g7, 0, none⟩ = some (.string t0) := (blk_cell hSW.2 0).trans rfl; have y3 : wSW.cell? ⟨g7, 1, none⟩ = some (.string t1) := (blk_cell hSW.2 1).trans rfl; go_simp)
        all_goals with_reducible rfl
       case s179 => exact ⟨HPB.out, H7.out⟩
       try simp only [Act.put, List.setIfInBounds_toArray, List.set_cons_zero, List.set_cons_succ]
       refine AnyT.taken (i := 2) (v := ?v180) rfl (by kernel_rfl) (by kernel_rfl) (by kernel_rfl) (by kernel_rfl) (fun _ _ _ h => h) (Or.inl ⟨by rfl, ?y180⟩) ?s180 ?_
       case y180 =>
        intro wSW hSW
        (have y0 : wSW.cell? ⟨gp, 0, none⟩ = some (.slice AN xs.length cN) := (blk_cell hSW.1 0).trans rfl; have y1 : wSW.cell? ⟨gp, 1, none⟩ = some (.slice AT ts.length cT) := (blk_cell hSW.1 1).trans rfl; have y2 : wSW.cell? ⟨g7, 0, none⟩ = some (.string t0) := (blk_cell hSW.2 0).trans rfl; have y3 : wSW.cell? ⟨g7, 1, none⟩ = some (.string t1) := (blk_cell hSW.2 1).trans rfl; go_simp)
        all_goals with_reducible rfl
       case s180 => exact ⟨HPB.out, H7.out⟩
       try simp only [Act.put, List.setIfInBounds_toArray, List.set_cons_zero, List.set_cons_succ]
       refine AnyT.taken (i := 5) (v := ?v181) rfl (by kernel_rfl) (by kernel_rfl) (by kernel_rfl) (by kernel_rfl) (fun _ _ _ h => h) (Or.inl ⟨by rfl, ?y181⟩) ?s181 ?_
       case y181 =>
        intro wSW hSW
        (have y0 : wSW.cell? ⟨gp, 0, none⟩ = some (.slice AN xs.length cN) := (blk_cell hSW.1 0).trans rfl; have y1 : wSW.cell? ⟨gp, 1, none⟩ = some (.slice AT ts.length cT) := (blk_cell hSW.1 1).trans rfl; have y2 : wSW.cell? ⟨g7, 0, none⟩ = some (.string t0) := (blk_cell hSW.2 0).trans rfl; have y3 : wSW.cell? ⟨g7, 1, none⟩ = some (.string t1) := (blk_cell hSW.2 1).trans rfl; go_simp)
        all_goals with_reducible rfl
       case s181 => exact ⟨HPB.out, H7.out⟩
       try simp only [Act.put, List.setIfInBounds_toArray, List.set_cons_zero, List.set_cons_succ]
       refine AnyT.taken (i := 6) (v := ?v182) rfl (by kernel_rfl) (by kernel_rfl) (by kernel_rfl) (by kernel_rfl) (fun _ _ _ h => h) (Or.inl ⟨by rfl, ?y182⟩) ?s182 ?_
       case y182 =>
        intro wSW hSW
        (have y0 : wSW.cell? ⟨gp, 0, none⟩ = some (.slice AN xs.length cN) := (blk_cell hSW.1 0).trans rfl; have y1 : wSW.cell? ⟨gp, 1, none⟩ = some (.slice AT ts.length cT) := (blk_cell hSW.1 1).trans rfl; have y2 : wSW.cell? ⟨g7, 0, none⟩ = some (.string t0) := (blk_cell hSW.2 0).trans rfl; have y3 : wSW.cell? ⟨g7, 1, none⟩ = some (.string t1) := (blk_cell hSW.2 1).trans rfl; go_simp)
        all_goals with_reducible rfl
       case s182 => exact ⟨HPB.out, H7.out⟩
       try simp only [Act.put, List.setIfInBounds_toArray, List.set_cons_zero, List.set_cons_succ]
       refine AnyT.taken (i := 7) (v := ?v183) rfl (by kernel_rfl) (by kernel_rfl) (by kernel_rfl) (by kernel_rfl) (fun _ _ _ h => h) (Or.inl ⟨by rfl, ?y183⟩) ?s183 ?_
       case y183 =>
        intro wSW hSW
        (have y0 : wSW.cell? ⟨gp, 0, none⟩ = some (.slice AN xs.length cN) := (blk_cell hSW.1 0).trans rfl; have y1 : wSW.cell? ⟨gp, 1, none⟩ = some (.slice AT ts.length cT) := (blk_cell hSW.1 1).trans rfl; have y2 : wSW.cell? ⟨g7, 0, none⟩ = some (.string t0) := (blk_cell hSW.2 0).trans rfl; have y3 : wSW.cell? ⟨g7, 1, none⟩ = some (.string t1) := (blk_cell hSW.2 1).trans rfl; go_simp)
        all_goals with_reducible rfl
       case s183 => exact ⟨HPB.out, H7.out⟩
       try simp only [Act.put, List.setIfInBounds_toArray, List.set_cons_zero, List.set_cons_succ]
       refine AnyT.taken (i := 8) (v := ?v184) rfl (by kernel_rfl) (by kernel_rfl) (by kernel_rfl) (by kernel_rfl) (fun _ _ _ h => h) (Or.inl ⟨by rfl, ?y184⟩) ?s184 ?_
       case y184 =>
        intro wSW hSW
        (have y0 : wSW.cell? ⟨gp, 0, none⟩ = some (.slice AN xs.length cN) := (blk_cell hSW.1 0).trans rfl; have y1 : wSW.cell? ⟨gp, 1, none⟩ = some (.slice AT ts.length cT) := (blk_cell hSW.1 1).trans rfl; have y2 : wSW.cell? ⟨g7, 0, none⟩ = some (.string t0) := (blk_cell hSW.2 0).trans rfl; have y3 : wSW.cell? ⟨g7, 1, none⟩ = some (.string t1) := (blk_cell hSW.2 1).trans rfl; go_simp)
        all_goals with_reducible rfl
       case s184 => exact ⟨HPB.out, H7.out⟩
       try simp only [Act.put, List.setIfInBounds_toArray, List.set_cons_zero, List.set_cons_succ]
       refine AnyT.taken (i := 9) (v := ?v185) rfl (by kernel_rfl) (by kernel_rfl) (by kernel_rfl) (by kernel_rfl) (fun _ _ _ h => h) (Or.inl ⟨by rfl, ?y185⟩) ?s185 ?_
       case y185 =>
        intro wSW hSW
        (have y0 : wSW.cell? ⟨gp, 0, none⟩ = some (.slice AN xs.length cN) := (blk_cell hSW.1 0).trans rfl; have y1 : wSW.cell? ⟨gp, 1, none⟩ = some (.slice AT ts.length cT) := (blk_cell hSW.1 1).trans rfl; have y2 : wSW.cell? ⟨g7, 0, none⟩ = some (.string t0) := (blk_cell hSW.2 0).trans rfl; have y3 : wSW.cell? ⟨g7, 1, none⟩ = some (.string t1) := (blk_cell hSW.2 1).trans rfl; go_simp)
        all_goals with_reducible rfl
       case s185 => exact ⟨HPB.out, H7.out⟩
       try simp only [Act.put, List.setIfInBounds_toArray, List.set_cons_zero, List.set_cons_succ]
       refine AnyT.taken (i := 10) (v := ?v186) rfl (by kernel_rfl) (by kernel_rfl) (by kernel_rfl) (by kernel_rfl) (fun _ _ _ h => h) (Or.inl ⟨by rfl, ?y186⟩) ?s186 ?_
       case y186 =>
        intro wSW hSW
        (have y0 : wSW.cell? ⟨gp, 0, none⟩ = some (.slice AN xs.length cN) := (blk_cell hSW.1 0).trans rfl; have y1 : wSW.cell? ⟨gp, 1, none⟩ = some (.slice AT ts.length cT) := (blk_cell hSW.1 1).trans rfl; have y2 : wSW.cell? ⟨g7, 0, none⟩ = some (.string t0) := (blk_cell hSW.2 0).trans rfl; have y3 : wSW.cell? ⟨g7, 1, none⟩ = some (.string t1) := (blk_cell hSW.2 1).trans rfl; go_simp)
        all_goals with_reducible rfl
       case s186 => exact ⟨HPB.out, H7.out⟩
       try simp only [Act.put, List.setIfInBounds_toArray, List.set_cons_zero, List.set_cons_succ]
       refine AnyT.ready (rs := [3, 11]) (by kernel_rfl) (by simp) (AllT.step rfl (fun K hK => ?b18703) (AllT.step rfl (fun K hK => ?b18711) AllT.nil))
       case b18703 =>
        (refine Kd.R_lit_step (Kd.int .i64) (w0 := w) w.heap.size 3 (by rfl) (N := 49) (by rfl) (xs := [0]) (inner := [.int .i64 0]) (ok := fun _ => True) (okp := fun _ => True) ?hr (reps_ints _ _ _ [0]) (fun _ h => h) trivial HB.out HB.out.size (by simp) ?_; (case hr => first | (go_simp; done) | (go_simp; rfl)); intro vx w9 ho hb hg hat; (try replace FA := Aside0.mk (Kd.R_grown FA.out hg (fun _ _ => by simp))); (try replace FL := Aside0.mk (Kd.R_grown FL.out hg (fun _ _ => by simp))); replace FN := Aside0.mk (Kd.R_grown FN.out hg (fun _ _ => by simp)); replace FT := Aside0.mk (Kd.R_grown FT.out hg (fun _ _ => by simp)); replace HPB := Aside0.mk (blk_grown HPB.out hg (by simp)); replace H7 := Aside0.mk (blk_grown H7.out hg (by simp)); replace HL := Aside0.mk (blk_grown HL.out hg (by simp)); replace HB := Aside0.mk hb; obtain ⟨A49, c49, e9⟩ := Kd.R_slice ho; subst e9; have FA := Aside0.mk ho; clear ho hb hg hat)
        refine hK.out _ _ ?_ ?_
        ·intro _; exact ⟨HPB.out, H7.out⟩
        clear hK K
        try simp only [Act.put, List.setIfInBounds_toArray, List.set_cons_zero, List.set_cons_succ]
        refine AnyT.ready (rs := [4, 11]) (by kernel_rfl) (by simp) (AllT.step rfl (fun K hK => ?b18904) (AllT.step rfl (fun K hK => ?b18911) AllT.nil))
        case b18904 =>
         (refine Kd.R_append_rows_step (Kd.int .i64) (w0 := w) w.heap.size (by rfl) (.tmp 47) (.tmp 49) 45 3 (.int .i64 0) 8 (by rfl) Try.underlying45 info3 rfl (by decide) (by omega) (.slice AN xs.length cN) xs [0] _ _ _ (fun _ => True) (fun _ => False) (by rfl) (by rfl) FN.out (Kd.R_reads' FA.out).2.2 (fun _ _ h => h) (fun _ h => h.elim) (fun _ _ => trivial) HB.out HB.out.size (by have h1 := HXL.out; have h2 := HTL.out; simp only [List.length_cons, List.length_nil]; omega) ?_; intro vx w9 ho hb hg hat; (try replace FT := Aside0.mk (Kd.R_over FT.out FN.out (by decide) hg)); (try replace FL := Aside0.mk (Kd.R_over FL.out FN.out (by decide) hg)); replace HPB := Aside0.mk (blk_grown HPB.out hg (Kd.R_ne FN.out HPB.out (by decide))); replace H7 := Aside0.mk (blk_grown H7.out hg (Kd.R_ne FN.out H7.out (by decide))); replace HL := Aside0.mk (blk_grown HL.out hg (Kd.R_ne FN.out HL.out (by decide))); replace HB := Aside0.mk hb; obtain ⟨A50, c50, e9⟩ := Kd.R_slice ho; simp only [List.length_append, List.length_cons, List.length_nil, Nat.zero_add, Nat.reduceAdd] at e9; subst e9; replace FN := Aside0.mk ho; clear ho hb hg hat FA)
         refine hK.out _ _ ?_ ?_
         ·intro _; exact ⟨HPB.out, H7.out⟩
         clear hK K
         try simp only [Act.put, List.setIfInBounds_toArray, List.set_cons_zero, List.set_cons_succ]
         refine AnyT.taken (i := 13) (v := ?v191) rfl (by kernel_rfl) (by kernel_rfl) (by kernel_rfl) (by kernel_rfl) (fun _ _ _ h => h) (Or.inl ⟨by rfl, ?y191⟩) ?s191 ?_
         case y191 =>
          intro wSW hSW
          (have y0 : wSW.cell? ⟨gp, 0, none⟩ = some (.slice AN xs.length cN) := (blk_cell hSW.1 0).trans rfl; have y1 : wSW.cell? ⟨gp, 1, none⟩ = some (.slice AT ts.length cT) := (blk_cell hSW.1 1).trans rfl; have y2 : wSW.cell? ⟨g7, 0, none⟩ = some (.string t0) := (blk_cell hSW.2 0).trans rfl; have y3 : wSW.cell? ⟨g7, 1, none⟩ = some (.string t1) := (blk_cell hSW.2 1).trans rfl; go_simp)
          all_goals with_reducible rfl
         case s191 => exact ⟨HPB.out, H7.out⟩
         try simp only [Act.put, List.setIfInBounds_toArray, List.set_cons_zero, List.set_cons_succ]
         refine AnyT.ready (rs := [11]) (by kernel_rfl) (by simp) (AllT.step rfl (fun K hK => ?b19211) AllT.nil)
         case b19211 =>
          (refine Kd.R_lit_step Kd.string (w0 := w) w.heap.size 9 (by rfl) (N := 57) (by rfl) (xs := [t0, t1]) (inner := [.string t0, .string t1]) (ok := fun _ => True) (okp := fun _ => True) ?hr (reps_texts _ _ _ [t0, t1]) (fun _ h => h) trivial HB.out HB.out.size (by simp) ?_; (case hr => first | (go_simp; done) | (go_simp; rfl)); intro vx w9 ho hb hg hat; (try replace FA := Aside0.mk (Kd.R_grown FA.out hg (fun _ _ => by simp))); (try replace FL := Aside0.mk (Kd.R_grown FL.out hg (fun _ _ => by simp))); replace FN := Aside0.mk (Kd.R_grown FN.out hg (fun _ _ => by simp)); replace FT := Aside0.mk (Kd.R_grown FT.out hg (fun _ _ => by simp)); replace HPB := Aside0.mk (blk_grown HPB.out hg (by simp)); replace H7 := Aside0.mk (blk_grown H7.out hg (by simp)); replace HL := Aside0.mk (blk_grown HL.out hg (by simp)); replace HB := Aside0.mk hb; obtain ⟨A57, c57, e9⟩ := Kd.R_slice ho; subst e9; have FL := Aside0.mk ho; clear ho hb hg hat)
          refine hK.out _ _ ?_ ?_
          ·intro _; exact ⟨HPB.out, H7.out⟩
          clear hK K
          try simp only [Act.put, List.setIfInBounds_toArray, List.set_cons_zero, List.set_cons_succ]
          refine AnyT.ready (rs := [12]) (by kernel_rfl) (by simp) (AllT.step rfl (fun K hK => ?b19412) AllT.nil)
          case b19412 =>
           (refine Kd.R_append_rows_step Kd.string (w0 := w) w.heap.size (by rfl) (.tmp 52) (.tmp 57) 22 9 (.string ⟨#[]⟩) 16 (by rfl) Try.underlying22 info9 rfl (by decide) (by omega) (.slice AT ts.length cT) ts [t0, t1] _ _ _ (fun _ => True) (fun _ => False) (by rfl) (by rfl) FT.out (Kd.R_reads' FL.out).2.2 (fun _ _ h => h) (fun _ h => h.elim) (fun _ _ => trivial) HB.out HB.out.size (by have h1 := HXL.out; have h2 := HTL.out; simp only [List.length_cons, List.length_nil]; omega) ?_; intro vx w9 ho hb hg hat; (try replace FN := Aside0.mk (Kd.R_over FN.out FT.out (by decide) hg)); replace HPB := Aside0.mk (blk_grown HPB.out hg (Kd.R_ne FT.out HPB.out (by decide))); replace H7 := Aside0.mk (blk_grown H7.out hg (Kd.R_ne FT.out H7.out (by decide))); replace HL := Aside0.mk (blk_grown HL.out hg (Kd.R_ne FT.out HL.out (by decide))); replace HB := Aside0.mk hb; obtain ⟨A58, c58, e9⟩ := Kd.R_slice ho; simp only [List.length_append, List.length_cons, List.length_nil, Nat.zero_add, Nat.reduceAdd] at e9; subst e9; replace FT := Aside0.mk ho; clear ho hb hg hat FL)
           refine hK.out _ _ ?_ ?_
           ·intro _; exact ⟨HPB.out, H7.out⟩
           clear hK K
           try simp only [Act.put, List.setIfInBounds_toArray, List.set_cons_zero, List.set_cons_succ]
           refine AnyT.ready (rs := [14]) (by kernel_rfl) (by simp) (AllT.step rfl (fun K hK => ?b19614) AllT.nil)
           case b19614 =>
            (have hs0 : w9.cell? ⟨gp, 0, none⟩ = some (.slice AN xs.length cN) := (blk_cell HPB.out 0).trans rfl; have hf0 := blk_frozen HPB.out 0; go_simp)
            refine hK.out _ _ ?_ ?_
            ·exact past (by kernel_rfl)
            clear hK K
            try simp only [Act.put, List.setIfInBounds_toArray, List.set_cons_zero, List.set_cons_succ]
            refine AnyT.ready (rs := [15]) (by kernel_rfl) (by simp) (AllT.step rfl (fun K hK => ?b19815) AllT.nil)
            case b19815 =>
             go_simp
             refine hK.out _ _ ?_ ?_
             ·exact past (by kernel_rfl)
             clear hK K
             try simp only [Act.put, List.setIfInBounds_toArray, List.set_cons_zero, List.set_cons_succ]
             refine AnyT.ready (rs := [16]) (by kernel_rfl) (by simp) (AllT.step rfl (fun K hK => ?b20016) AllT.nil)
             case b20016 =>
              (have hs1 : (w9.setCell ⟨gp, 0, none⟩ (.slice A50 (xs.length + 1) c50)).cell? ⟨gp, 1, none⟩ = some (.slice AT ts.length cT) := (blk_cell (blk_set HPB.out 0 (.slice A50 (xs.length + 1) c50)) 1).trans rfl; have hf1 := blk_frozen (blk_set HPB.out 0 (.slice A50 (xs.length + 1) c50)) 1; go_simp)
              refine hK.out _ _ ?_ ?_
              ·exact past (by kernel_rfl)
              clear hK K
              try simp only [Act.put, List.setIfInBounds_toArray, List.set_cons_zero, List.set_cons_succ]
              refine AnyT.done (by kernel_rfl) ?_ _
              refine NoPanic.normal ?_
              (have HE := Aside0.mk (PE.of HL.out HB.out FN.out FT.out HPB.out HG.out); have hm := Aside0.mk (round_less hx.out HLT.out); clear FN FT HPB HB H7 HL HG; go_wp2; rw [HW.out]; exact ⟨⟨i + 1, x + 1, xs ++ [0], ts ++ [t0, t1], _, _, rfl, HI, ⟨HLT.out⟩, ⟨HXS.out.symm⟩, ⟨HTS.out.symm⟩, HE⟩, hm.out⟩)
        case b18911 =>
         (refine Kd.R_lit_step Kd.string (w0 := w) w.heap.size 9 (by rfl) (N := 57) (by rfl) (xs := [t0, t1]) (inner := [.string t0, .string t1]) (ok := fun _ => True) (okp := fun _ => True) ?hr (reps_texts _ _ _ [t0, t1]) (fun _ h => h) trivial HB.out HB.out.size (by simp) ?_; (case hr => first | (go_simp; done) | (go_simp; rfl)); intro vx w9 ho hb hg hat; (try replace FA := Aside0.mk (Kd.R_grown FA.out hg (fun _ _ => by simp))); (try replace FL := Aside0.mk (Kd.R_grown FL.out hg (fun _ _ => by simp))); replace FN := Aside0.mk (Kd.R_grown FN.out hg (fun _ _ => by simp)); replace FT := Aside0.mk (Kd.R_grown FT.out hg (fun _ _ => by simp)); replace HPB := Aside0.mk (blk_grown HPB.out hg (by simp)); replace H7 := Aside0.mk (blk_grown H7.out hg (by simp)); replace HL := Aside0.mk (blk_grown HL.out hg (by simp)); replace HB := Aside0.mk hb; obtain ⟨A57, c57, e9⟩ := Kd.R_slice ho; subst e9; have FL := Aside0.mk ho; clear ho hb hg hat)
         refine hK.out _ _ ?_ ?_
         ·intro _; exact ⟨HPB.out, H7.out⟩
         clear hK K
         try simp only [Act.put, List.setIfInBounds_toArray, List.set_cons_zero, List.set_cons_succ]
         refine AnyT.ready (rs := [4]) (by kernel_rfl) (by simp) (AllT.step rfl (fun K hK => ?b20404) AllT.nil)
         case b20404 =>
          (refine Kd.R_append_rows_step (Kd.int .i64) (w0 := w) w.heap.size (by rfl) (.tmp 47) (.tmp 49) 45 3 (.int .i64 0) 8 (by rfl) Try.underlying45 info3 rfl (by decide) (by omega) (.slice AN xs.length cN) xs [0] _ _ _ (fun _ => True) (fun _ => False) (by rfl) (by rfl) FN.out (Kd.R_reads' FA.out).2.2 (fun _ _ h => h) (fun _ h => h.elim) (fun _ _ => trivial) HB.out HB.out.size (by have h1 := HXL.out; have h2 := HTL.out; simp only [List.length_cons, List.length_nil]; omega) ?_; intro vx w9 ho hb hg hat; (try replace FT := Aside0.mk (Kd.R_over FT.out FN.out (by decide) hg)); (try replace FL := Aside0.mk (Kd.R_over FL.out FN.out (by decide) hg)); replace HPB := Aside0.mk (blk_grown HPB.out hg (Kd.R_ne FN.out HPB.out (by decide))); replace H7 := Aside0.mk (blk_grown H7.out hg (Kd.R_ne FN.out H7.out (by decide))); replace HL := Aside0.mk (blk_grown HL.out hg (Kd.R_ne FN.out HL.out (by decide))); replace HB := Aside0.mk hb; obtain ⟨A50, c50, e9⟩ := Kd.R_slice ho; simp only [List.length_append, List.length_cons, List.length_nil, Nat.zero_add, Nat.reduceAdd] at e9; subst e9; replace FN := Aside0.mk ho; clear ho hb hg hat FA)
          refine hK.out _ _ ?_ ?_
          ·intro _; exact ⟨HPB.out, H7.out⟩
          clear hK K
          try simp only [Act.put, List.setIfInBounds_toArray, List.set_cons_zero, List.set_cons_succ]
          refine AnyT.taken (i := 13) (v := ?v206) rfl (by kernel_rfl) (by kernel_rfl) (by kernel_rfl) (by kernel_rfl) (fun _ _ _ h => h) (Or.inl ⟨by rfl, ?y206⟩) ?s206 ?_
          case y206 =>
           intro wSW hSW
           (have y0 : wSW.cell? ⟨gp, 0, none⟩ = some (.slice AN xs.length cN) := (blk_cell hSW.1 0).trans rfl; have y1 : wSW.cell? ⟨gp, 1, none⟩ = some (.slice AT ts.length cT) := (blk_cell hSW.1 1).trans rfl; have y2 : wSW.cell? ⟨g7, 0, none⟩ = some (.string t0) := (blk_cell hSW.2 0).trans rfl; have y3 : wSW.cell? ⟨g7, 1, none⟩ = some (.string t1) := (blk_cell hSW.2 1).trans rfl; go_simp)
           all_goals with_reducible rfl
          case s206 => exact ⟨HPB.out, H7.out⟩
          try simp only [Act.put, List.setIfInBounds_toArray, List.set_cons_zero, List.set_cons_succ]
          refine AnyT.ready (rs := [12]) (by kernel_rfl) (by simp) (AllT.step rfl (fun K hK => ?b20712) AllT.nil)
          case b20712 =>
           (refine Kd.R_append_rows_step Kd.string (w0 := w) w.heap.size (by rfl) (.tmp 52) (.tmp 57) 22 9 (.string ⟨#[]⟩) 16 (by rfl) Try.underlying22 info9 rfl (by decide) (by omega) (.slice AT ts.length cT) ts [t0, t1] _ _ _ (fun _ => True) (fun _ => False) (by rfl) (by rfl) FT.out (Kd.R_reads' FL.out).2.2 (fun _ _ h => h) (fun _ h => h.elim) (fun _ _ => trivial) HB.out HB.out.size (by have h1 := HXL.out; have h2 := HTL.out; simp only [List.length_cons, List.length_nil]; omega) ?_; intro vx w9 ho hb hg hat; (try replace FN := Aside0.mk (Kd.R_over FN.out FT.out (by decide) hg)); replace HPB := Aside0.mk (blk_grown HPB.out hg (Kd.R_ne FT.out HPB.out (by decide))); replace H7 := Aside0.mk (blk_grown H7.out hg (Kd.R_ne FT.out H7.out (by decide))); replace HL := Aside0.mk (blk_grown HL.out hg (Kd.R_ne FT.out HL.out (by decide))); replace HB := Aside0.mk hb; obtain ⟨A58, c58, e9⟩ := Kd.R_slice ho; simp only [List.length_append, List.length_cons, List.length_nil, Nat.zero_add, Nat.reduceAdd] at e9; subst e9; replace FT := Aside0.mk ho; clear ho hb hg hat FL)
           refine hK.out _ _ ?_ ?_
           ·intro _; exact ⟨HPB.out, H7.out⟩
           clear hK K
           try simp only [Act.put, List.setIfInBounds_toArray, List.set_cons_zero, List.set_cons_succ]
           refine AnyT.ready (rs := [14]) (by kernel_rfl) (by simp) (AllT.step rfl (fun K hK => ?b20914) AllT.nil)
           case b20914 =>
            (have hs0 : w9.cell? ⟨gp, 0, none⟩ = some (.slice AN xs.length cN) := (blk_cell HPB.out 0).trans rfl; have hf0 := blk_frozen HPB.out 0; go_simp)
            refine hK.out _ _ ?_ ?_
            ·exact past (by kernel_rfl)
            clear hK K
            try simp only [Act.put, List.setIfInBounds_toArray, List.set_cons_zero, List.set_cons_succ]
            refine AnyT.ready (rs := [15]) (by kernel_rfl) (by simp) (AllT.step rfl (fun K hK => ?b21115) AllT.nil)
            case b21115 =>
             go_simp
             refine hK.out _ _ ?_ ?_
             ·exact past (by kernel_rfl)
             clear hK K
             try simp only [Act.put, List.setIfInBounds_toArray, List.set_cons_zero, List.set_cons_succ]
             refine AnyT.ready (rs := [16]) (by kernel_rfl) (by simp) (AllT.step rfl (fun K hK => ?b21316) AllT.nil)
             case b21316 =>
              (have hs1 : (w9.setCell ⟨gp, 0, none⟩ (.slice A50 (xs.length + 1) c50)).cell? ⟨gp, 1, none⟩ = some (.slice AT ts.length cT) := (blk_cell (blk_set HPB.out 0 (.slice A50 (xs.length + 1) c50)) 1).trans rfl; have hf1 := blk_frozen (blk_set HPB.out 0 (.slice A50 (xs.length + 1) c50)) 1; go_simp)
              refine hK.out _ _ ?_ ?_
              ·exact past (by kernel_rfl)
              clear hK K
              try simp only [Act.put, List.setIfInBounds_toArray, List.set_cons_zero, List.set_cons_succ]
              refine AnyT.done (by kernel_rfl) ?_ _
              refine NoPanic.normal ?_
              (have HE := Aside0.mk (PE.of HL.out HB.out FN.out FT.out HPB.out HG.out); have hm := Aside0.mk (round_less hx.out HLT.out); clear FN FT HPB HB H7 HL HG; go_wp2; rw [HW.out]; exact ⟨⟨i + 1, x + 1, xs ++ [0], ts ++ [t0, t1], _, _, rfl, HI, ⟨HLT.out⟩, ⟨HXS.out.symm⟩, ⟨HTS.out.symm⟩, HE⟩, hm.out⟩)
       case b18711 =>
        (refine Kd.R_lit_step Kd.string (w0 := w) w.heap.size 9 (by rfl) (N := 57) (by rfl) (xs := [t0, t1]) (inner := [.string t0, .string t1]) (ok := fun _ => True) (okp := fun _ => True) ?hr (reps_texts _ _ _ [t0, t1]) (fun _ h => h) trivial HB.out HB.out.size (by simp) ?_; (case hr => first | (go_simp; done) | (go_simp; rfl)); intro vx w9 ho hb hg hat; (try replace FA := Aside0.mk (Kd.R_grown FA.out hg (fun _ _ => by simp))); (try replace FL := Aside0.mk (Kd.R_grown FL.out hg (fun _ _ => by simp))); replace FN := Aside0.mk (Kd.R_grown FN.out hg (fun _ _ => by simp)); replace FT := Aside0.mk (Kd.R_grown FT.out hg (fun _ _ => by simp)); replace HPB := Aside0.mk (blk_grown HPB.out hg (by simp)); replace H7 := Aside0.mk (blk_grown H7.out hg (by simp)); replace HL := Aside0.mk (blk_grown HL.out hg (by simp)); replace HB := Aside0.mk hb; obtain ⟨A57, c57, e9⟩ := Kd.R_slice ho; subst e9; have FL := Aside0.mk ho; clear ho hb hg hat)
        refine hK.out _ _ ?_ ?_
        ·intro _; exact ⟨HPB.out, H7.out⟩
        clear hK K
        try simp only [Act.put, List.setIfInBounds_toArray, List.set_cons_zero, List.set_cons_succ]
        refine AnyT.ready (rs := [3]) (by kernel_rfl) (by simp) (AllT.step rfl (fun K hK => ?b21703) AllT.nil)
        case b21703 =>
         (refine Kd.R_lit_step (Kd.int .i64) (w0 := w) w.heap.size 3 (by rfl) (N := 49) (by rfl) (xs := [0]) (inner := [.int .i64 0]) (ok := fun _ => True) (okp := fun _ => True) ?hr (reps_ints _ _ _ [0]) (fun _ h => h) trivial HB.out HB.out.size (by simp) ?_; (case hr => first | (go_simp; done) | (go_simp; rfl)); intro vx w9 ho hb hg hat; (try replace FA := Aside0.mk (Kd.R_grown FA.out hg (fun _ _ => by simp))); (try replace FL := Aside0.mk (Kd.R_grown FL.out hg (fun _ _ => by simp))); replace FN := Aside0.mk (Kd.R_grown FN.out hg (fun _ _ => by simp)); replace FT := Aside0.mk (Kd.R_grown FT.out hg (fun _ _ => by simp)); replace HPB := Aside0.mk (blk_grown HPB.out hg (by simp)); replace H7 := Aside0.mk (blk_grown H7.out hg (by simp)); replace HL := Aside0.mk (blk_grown HL.out hg (by simp)); replace HB := Aside0.mk hb; obtain ⟨A49, c49, e9⟩ := Kd.R_slice ho; subst e9; have FA := Aside0.mk ho; clear ho hb hg hat)
         refine hK.out _ _ ?_ ?_
         ·intro _; exact ⟨HPB.out, H7.out⟩
         clear hK K
         try simp only [Act.put, List.setIfInBounds_toArray, List.set_cons_zero, List.set_cons_succ]
         refine AnyT.ready (rs := [4]) (by kernel_rfl) (by simp) (AllT.step rfl (fun K hK => ?b21904) AllT.nil)
         case b21904 =>
          (refine Kd.R_append_rows_step (Kd.int .i64) (w0 := w) w.heap.size (by rfl) (.tmp 47) (.tmp 49) 45 3 (.int .i64 0) 8 (by rfl) Try.underlying45 info3 rfl (by decide) (by omega) (.slice AN xs.length cN) xs [0] _ _ _ (fun _ => True) (fun _ => False) (by rfl) (by rfl) FN.out (Kd.R_reads' FA.out).2.2 (fun _ _ h => h) (fun _ h => h.elim) (fun _ _ => trivial) HB.out HB.out.size (by have h1 := HXL.out; have h2 := HTL.out; simp only [List.length_cons, List.length_nil]; omega) ?_; intro vx w9 ho hb hg hat; (try replace FT := Aside0.mk (Kd.R_over FT.out FN.out (by decide) hg)); (try replace FL := Aside0.mk (Kd.R_over FL.out FN.out (by decide) hg)); replace HPB := Aside0.mk (blk_grown HPB.out hg (Kd.R_ne FN.out HPB.out (by decide))); replace H7 := Aside0.mk (blk_grown H7.out hg (Kd.R_ne FN.out H7.out (by decide))); replace HL := Aside0.mk (blk_grown HL.out hg (Kd.R_ne FN.out HL.out (by decide))); replace HB := Aside0.mk hb; obtain ⟨A50, c50, e9⟩ := Kd.R_slice ho; simp only [List.length_append, List.length_cons, List.length_nil, Nat.zero_add, Nat.reduceAdd] at e9; subst e9; replace FN := Aside0.mk ho; clear ho hb hg hat FA)
          refine hK.out _ _ ?_ ?_
          ·intro _; exact ⟨HPB.out, H7.out⟩
          clear hK K
          try simp only [Act.put, List.setIfInBounds_toArray, List.set_cons_zero, List.set_cons_succ]
          refine AnyT.taken (i := 13) (v := ?v221) rfl (by kernel_rfl) (by kernel_rfl) (by kernel_rfl) (by kernel_rfl) (fun _ _ _ h => h) (Or.inl ⟨by rfl, ?y221⟩) ?s221 ?_
          case y221 =>
           intro wSW hSW
           (have y0 : wSW.cell? ⟨gp, 0, none⟩ = some (.slice AN xs.length cN) := (blk_cell hSW.1 0).trans rfl; have y1 : wSW.cell? ⟨gp, 1, none⟩ = some (.slice AT ts.length cT) := (blk_cell hSW.1 1).trans rfl; have y2 : wSW.cell? ⟨g7, 0, none⟩ = some (.string t0) := (blk_cell hSW.2 0).trans rfl; have y3 : wSW.cell? ⟨g7, 1, none⟩ = some (.string t1) := (blk_cell hSW.2 1).trans rfl; go_simp)
           all_goals with_reducible rfl
          case s221 => exact ⟨HPB.out, H7.out⟩
          try simp only [Act.put, List.setIfInBounds_toArray, List.set_cons_zero, List.set_cons_succ]
          refine AnyT.ready (rs := [12]) (by kernel_rfl) (by simp) (AllT.step rfl (fun K hK => ?b22212) AllT.nil)
          case b22212 =>
           (refine Kd.R_append_rows_step Kd.string (w0 := w) w.heap.size (by rfl) (.tmp 52) (.tmp 57) 22 9 (.string ⟨#[]⟩) 16 (by rfl) Try.underlying22 info9 rfl (by decide) (by omega) (.slice AT ts.length cT) ts [t0, t1] _ _ _ (fun _ => True) (fun _ => False) (by rfl) (by rfl) FT.out (Kd.R_reads' FL.out).2.2 (fun _ _ h => h) (fun _ h => h.elim) (fun _ _ => trivial) HB.out HB.out.size (by have h1 := HXL.out; have h2 := HTL.out; simp only [List.length_cons, List.length_nil]; omega) ?_; intro vx w9 ho hb hg hat; (try replace FN := Aside0.mk (Kd.R_over FN.out FT.out (by decide) hg)); replace HPB := Aside0.mk (blk_grown HPB.out hg (Kd.R_ne FT.out HPB.out (by decide))); replace H7 := Aside0.mk (blk_grown H7.out hg (Kd.R_ne FT.out H7.out (by decide))); replace HL := Aside0.mk (blk_grown HL.out hg (Kd.R_ne FT.out HL.out (by decide))); replace HB := Aside0.mk hb; obtain ⟨A58, c58, e9⟩ := Kd.R_slice ho; simp only [List.length_append, List.length_cons, List.length_nil, Nat.zero_add, Nat.reduceAdd] at e9; subst e9; replace FT := Aside0.mk ho; clear ho hb hg hat FL)
           refine hK.out _ _ ?_ ?_
           ·intro _; exact ⟨HPB.out, H7.out⟩
           clear hK K
           try simp only [Act.put, List.setIfInBounds_toArray, List.set_cons_zero, List.set_cons_succ]
           refine AnyT.ready (rs := [14]) (by kernel_rfl) (by simp) (AllT.step rfl (fun K hK => ?b22414) AllT.nil)
           case b22414 =>
            (have hs0 : w9.cell? ⟨gp, 0, none⟩ = some (.slice AN xs.length cN) := (blk_cell HPB.out 0).trans rfl; have hf0 := blk_frozen HPB.out 0; go_simp)
            refine hK.out _ _ ?_ ?_
            ·exact past (by kernel_rfl)
            clear hK K
            try simp only [Act.put, List.setIfInBounds_toArray, List.set_cons_zero, List.set_cons_succ]
            refine AnyT.ready (rs := [15]) (by kernel_rfl) (by simp) (AllT.step rfl (fun K hK => ?b22615) AllT.nil)
            case b22615 =>
             go_simp
             refine hK.out _ _ ?_ ?_
             ·exact past (by kernel_rfl)
             clear hK K
             try simp only [Act.put, List.setIfInBounds_toArray, List.set_cons_zero, List.set_cons_succ]
             refine AnyT.ready (rs := [16]) (by kernel_rfl) (by simp) (AllT.step rfl (fun K hK => ?b22816) AllT.nil)
             case b22816 =>
              (have hs1 : (w9.setCell ⟨gp, 0, none⟩ (.slice A50 (xs.length + 1) c50)).cell? ⟨gp, 1, none⟩ = some (.slice AT ts.length cT) := (blk_cell (blk_set HPB.out 0 (.slice A50 (xs.length + 1) c50)) 1).trans rfl; have hf1 := blk_frozen (blk_set HPB.out 0 (.slice A50 (xs.length + 1) c50)) 1; go_simp)
              refine hK.out _ _ ?_ ?_
              ·exact past (by kernel_rfl)
              clear hK K
              try simp only [Act.put, List.setIfInBounds_toArray, List.set_cons_zero, List.set_cons_succ]
              refine AnyT.done (by kernel_rfl) ?_ _
              refine NoPanic.normal ?_
              (have HE := Aside0.mk (PE.of HL.out HB.out FN.out FT.out HPB.out HG.out); have hm := Aside0.mk (round_less hx.out HLT.out); clear FN FT HPB HB H7 HL HG; go_wp2; rw [HW.out]; exact ⟨⟨i + 1, x + 1, xs ++ [0], ts ++ [t0, t1], _, _, rfl, HI, ⟨HLT.out⟩, ⟨HXS.out.symm⟩, ⟨HTS.out.symm⟩, HE⟩, hm.out⟩)
     ·have c1 : decide (x < (l0_8.length : Int)) = false := decide_eq_false (by omega)
      obtain rfl : i = l0_8.length := by omega
      have HC : Aside0 (pack_Encode.f k xs ts = some (r1, r2)) := ⟨by rw [hxs.out, hts.out, List.take_length]; exact HPK.out⟩
      clear HPK hxs hts hx hi hxi hile hlt
      obtain ⟨AN, cN, eN⟩ := Kd.R_slice HP.out.ns
      subst eN
      obtain ⟨AT, cT, eT⟩ := Kd.R_slice HP.out.ts
      subst eT
      have hp0 : wr.cell? ⟨gp, 0, none⟩ = some (.slice AN xs.length cN) := (blk_cell HP.out.bp 0).trans rfl
      have hp1 : wr.cell? ⟨gp, 1, none⟩ = some (.slice AT ts.length cT) := (blk_cell HP.out.bp 1).trans rfl
      go_wp2_with (go_at_call 26; refine (pack_Encode.calls k _ _ xs _ _ ts r1 r2 _ (Kd.R_reads' HP.out.ns).2.2 (Kd.R_reads' HP.out.ns).2.1 (Kd.R_reads' HP.out.ts).2.2 (Kd.R_reads' HP.out.ts).2.1 HC.out).mono ?_; rintro e w9 ⟨rfl, hb⟩; have HB9 := Aside0.mk (below_step HP.out.bel hb); clear hb)
      go_ret2
      exact ⟨rfl, HB9.out⟩
  ·rw [if_neg hl] at H
   cases H
 ·rw [if_neg c3] at H
  have c3b0 : (t == 0) = false := beq_eq_false_iff_ne.mpr c3
  have c3b1 : (t != 0) = true := bne_iff_ne.mpr c3
  simp only [Option.some.injEq, Prod.mk.injEq] at H
  obtain ⟨rfl, rfl⟩ := H
  go_enter Try.func10, Try.ntmps10
  go_wp2_with (first | ((with_reducible refine gate_dst (N := 1) rfl ?_); refine box_event ?hg (N := 1) ?hd (cs := #[.int .i64 a0_0, .int .i64 a0_1, .int .i64 a0_2, .int .i64 a0_3, .int .i64 a0_4, .int .i64 a0_5, .string a0_6, .slice A0_7 l0_7.length c0_7, .slice A0_8 l0_8.length c0_8]) (t := 25) ?hr ?_; (case hd => rfl); (case hg => rfl); (case hr => first | (go_simp; done) | (go_simp; rfl)); intro gl hgl w1 hbox hb; have HB := Aside0.mk hb; have BL := Aside0.mk hbox; clear hgl hb hbox; have hcz_0 : w1.cell? ⟨gl, 0, none⟩ = some (.int .i64 a0_0) := (blk_cell BL.out 0).trans rfl; have hcz_1 : w1.cell? ⟨gl, 1, none⟩ = some (.int .i64 a0_1) := (blk_cell BL.out 1).trans rfl; have hcz_2 : w1.cell? ⟨gl, 2, none⟩ = some (.int .i64 a0_2) := (blk_cell BL.out 2).trans rfl; have hcz_3 : w1.cell? ⟨gl, 3, none⟩ = some (.int .i64 a0_3) := (blk_cell BL.out 3).trans rfl; have hcz_4 : w1.cell? ⟨gl, 4, none⟩ = some (.int .i64 a0_4) := (blk_cell BL.out 4).trans rfl; have hcz_5 : w1.cell? ⟨gl, 5, none⟩ = some (.int .i64 a0_5) := (blk_cell BL.out 5).trans rfl; have hcz_6 : w1.cell? ⟨gl, 6, none⟩ = some (.string a0_6) := (blk_cell BL.out 6).trans rfl; have hcz_7 : w1.cell? ⟨gl, 7, none⟩ = some (.slice A0_7 l0_7.length c0_7) := (blk_cell BL.out 7).trans rfl; have hcz_8 : w1.cell? ⟨gl, 8, none⟩ = some (.slice A0_8 l0_8.length c0_8) := (blk_cell BL.out 8).trans rfl) | (go_at_call 13; refine (letter_Check.calls a0_0 a0_1 a0_2 a0_3 a0_4 a0_5 a0_6 _ _ l0_7 _ _ l0_8 _ _ (Kd.C_below HR7.out HB.out) HC7.out (Kd.C_below HR8.out HB.out) HC8.out A2.out).mono ?_; rintro e w2 ⟨rfl, hb⟩; have HB2 := Aside0.mk (below_step HB.out hb); have BL2 := Aside0.mk (blk_below BL.out hb); clear hb))
  go_ret2
  exact ⟨rfl, HB2.out⟩
end Go.Proofs.Ytelgpkbnahgdoaa.Al

namespace Go.Proofs.Ytelgpkbnahgdoaa.Al
open Go.RowKit Go.Proofs.Ytelgpkbnahgdoaa.Base Go.Proofs.YtelgpkbnahgdoaaW.PrintWords Go.Proofs.YtelgpkbnahgdoaaW.PrintLast Go.Proofs.YtelgpkbnahgdoaaW.PrintMore
set_option linter.unusedVariables false
set_option linter.unusedSimpArgs false
namespace LD
abbrev RLet := Int × Int × Int × Int × Int × Int × ByteArray × List ByteArray × List S49 × Int
def noLet : RLet := (0, 0, 0, 0, 0, 0, ⟨#[]⟩, [], [], 70)
/-- The result's block gq, the pack's block gp. -/
structure QR (w0 W : World) (gq gp : Nat) (xs : List Int) (ts : List ByteArray) (vN vT : Value) : Prop where
 bq : W.heap[gq]? = some (.cells #[.int .i64 0, .int .i64 0, .int .i64 0, .int .i64 0, .int .i64 0, .int .i64 0, .string (⟨#[]⟩ : ByteArray), .slice none 0 0, .slice none 0 0] 25 (0, 0))
 bp : W.heap[gp]? = some (.cells #[vN, vT] 47 (0, 0))
 geq : w0.heap.size ≤ gq
 gep : w0.heap.size ≤ gp
 ns : (Kd.int .i64).R 3 W w0.heap.size (fun _ => True) vN xs
 ts : Kd.string.R 9 W w0.heap.size (fun _ => True) vT ts
 bel : Below w0.heap.size w0 W
section
variable {w0 W : World} {gq gp : Nat} {xs : List Int} {ts : List ByteArray} {vN vT : Value}
theorem QR.below {W1 : World} (h : QR w0 W gq gp xs ts vN vT) (hb : Below W.heap.size W W1) : QR w0 W1 gq gp xs ts vN vT where
 bq := blk_below h.bq hb
 bp := blk_below h.bp hb
 geq := h.geq
 gep := h.gep
 ns := Kd.R_below h.ns hb
 ts := Kd.R_below h.ts hb
 bel := below_step h.bel hb
theorem QR.alloc (h : QR w0 W gq gp xs ts vN vT) (o : Obj) : QR w0 (W.alloc o) gq gp xs ts vN vT := h.below (below_alloc (Below.refl _ _) o)
theorem QR.drewN (h : QR w0 W gq gp xs ts vN vT) (m : Nat) : QR w0 (W.drewN m) gq gp xs ts vN vT := h.below (pw_below_drewN (Below.refl _ _) m)
theorem QR.drew (h : QR w0 W gq gp xs ts vN vT) : QR w0 W.drew gq gp xs ts vN vT := h.below (below_drew (Below.refl _ _))
end
/-- The empty letter and 70 come back. -/
def NoLetE (w : World) (e : Ending) (w' : World) : Prop := e = .returned (.tuple #[.agg #[.int .i64 0, .int .i64 0, .int .i64 0, .int .i64 0, .int .i64 0, .int .i64 0, .string (⟨#[]⟩ : ByteArray), .slice none 0 0, .slice none 0 0], .int .i64 70]) ∧ Below w.heap.size w w'
theorem qr_of {w0 w2 w3 : World} {gq gp : Nat} {xs : List Int} {ts : List ByteArray} {vN vT : Value} (geq : w0.heap.size ≤ gq) (bq : w2.heap[gq]? = some (.cells #[.int .i64 0, .int .i64 0, .int .i64 0, .int .i64 0, .int .i64 0, .int .i64 0, .string (⟨#[]⟩ : ByteArray), .slice none 0 0, .slice none 0 0] 25 (0, 0))) (bp : w3.heap[gp]? = some (.cells #[.slice none 0 0, .slice none 0 0] 47 (0, 0))) (hgp : gp = w2.heap.size) (hns : (Kd.int .i64).R 3 w2 w0.heap.size (fun _ => True) vN xs) (hts : Kd.string.R 9 w2 w0.heap.size (fun _ => True) vT ts) (hb : Below w0.heap.size w0 w2) (hb3 : Below w2.heap.size w2 w3) :
  QR w0 ((w3.setCell ⟨gp, 0, none⟩ vN).setCell ⟨gp, 1, none⟩ vT) gq gp xs ts vN vT := by
 have ge : w0.heap.size ≤ gp := by have := hb.size; omega
 have ne : gq ≠ gp := by have := blk_lt bq; omega
 have bp1 := blk_set bp 0 vN
 exact ⟨blk_far (blk_far (blk_below bq hb3) (p := ⟨gp, 0, none⟩) ne vN) (p := ⟨gp, 1, none⟩) ne vT, by simpa using blk_set bp1 1 vT, geq, ge, Kd.R_set (Kd.R_set (Kd.R_below hns hb3) bp (by decide) 0 vN) bp1 (by decide) 1 vT, Kd.R_set (Kd.R_set (Kd.R_below hts hb3) bp (by decide) 0 vN) bp1 (by decide) 1 vT, below_set (below_set (below_step hb hb3) ge) ge⟩
theorem set9 {w : World} {g t : Nat} {z0 z1 z2 z3 z4 z5 z6 z7 z8 c0 c1 c2 c3 c4 c5 c6 c7 c8 : Value} (h : w.heap[g]? = some (.cells #[z0, z1, z2, z3, z4, z5, z6, z7, z8] t (0, 0))) : (((((((((w.setCell ⟨g, 0, none⟩ c0).setCell ⟨g, 1, none⟩ c1).setCell ⟨g, 2, none⟩ c2).setCell ⟨g, 3, none⟩ c3).setCell ⟨g, 4, none⟩ c4).setCell ⟨g, 5, none⟩ c5).setCell ⟨g, 6, none⟩ c6).setCell ⟨g, 7, none⟩ c7).setCell ⟨g, 8, none⟩ c8).heap[g]? = some (.cells #[c0, c1, c2, c3, c4, c5, c6, c7, c8] t (0, 0)) := by
 have := blk_set (blk_set (blk_set (blk_set (blk_set (blk_set (blk_set (blk_set (blk_set h 0 c0) 1 c1) 2 c2) 3 c3) 4 c4) 5 c5) 6 c6) 7 c7) 8 c8
 simpa using this
theorem below9 {w W : World} {g : Nat} {c0 c1 c2 c3 c4 c5 c6 c7 c8 : Value} (h : Below w.heap.size w W) (hg : w.heap.size ≤ g) : Below w.heap.size w (((((((((W.setCell ⟨g, 0, none⟩ c0).setCell ⟨g, 1, none⟩ c1).setCell ⟨g, 2, none⟩ c2).setCell ⟨g, 3, none⟩ c3).setCell ⟨g, 4, none⟩ c4).setCell ⟨g, 5, none⟩ c5).setCell ⟨g, 6, none⟩ c6).setCell ⟨g, 7, none⟩ c7).setCell ⟨g, 8, none⟩ c8) :=
 below_set (below_set (below_set (below_set (below_set (below_set (below_set (below_set (below_set h hg) hg) hg) hg) hg) hg) hg) hg) hg
theorem keep9 {W : World} {g : Nat} {c0 c1 c2 c3 c4 c5 c6 c7 c8 : Value} : KeepBut W (((((((((W.setCell ⟨g, 0, none⟩ c0).setCell ⟨g, 1, none⟩ c1).setCell ⟨g, 2, none⟩ c2).setCell ⟨g, 3, none⟩ c3).setCell ⟨g, 4, none⟩ c4).setCell ⟨g, 5, none⟩ c5).setCell ⟨g, 6, none⟩ c6).setCell ⟨g, 7, none⟩ c7).setCell ⟨g, 8, none⟩ c8) g none :=
 ((((((((((KeepBut.refl W g none).set_ 0 c0).set_ 1 c1).set_ 2 c2).set_ 3 c3).set_ 4 c4).set_ 5 c5).set_ 6 c6).set_ 7 c7).set_ 8 c8)
/-- The write that flags and texts tell, and all of them. -/
def wOf (flags : List Int) (rest : List ByteArray) (j : Nat) : S49 := ⟨rdOf ByteArray.empty rest (2 * (j : Int)), rdOf ByteArray.empty rest (2 * (j : Int) + 1), rd flags (j : Int) == 1⟩
def wsOf (flags : List Int) (rest : List ByteArray) (i : Nat) : List S49 := (List.range i).map (wOf flags rest)
theorem ws_succ (flags : List Int) (rest : List ByteArray) (i : Nat) : wsOf flags rest (i + 1) = wsOf flags rest i ++ [wOf flags rest i] := by simp [wsOf, List.range_succ]
theorem ws_len (flags : List Int) (rest : List ByteArray) (i : Nat) : (wsOf flags rest i).length = i := by simp [wsOf]
theorem QR.set {w0 W : World} {gq gp g : Nat} {xs : List Int} {ts : List ByteArray} {vN vT : Value} {cells : Array Value} (h : QR w0 W gq gp xs ts vN vT) (hb : W.heap[g]? = some (.cells cells 25 (0, 0))) (hg : w0.heap.size ≤ g) (hne : gq ≠ g) (hne' : gp ≠ g) (j : Nat) (u : Value) : QR w0 (W.setCell ⟨g, j, none⟩ u) gq gp xs ts vN vT :=
 ⟨blk_far h.bq (p := ⟨g, j, none⟩) hne u, blk_far h.bp (p := ⟨g, j, none⟩) hne' u, h.geq, h.gep, Kd.R_set h.ns hb (by decide) j u, Kd.R_set h.ts hb (by decide) j u, below_set h.bel hg⟩
theorem ncell {W : World} {base g c : Nat} {ns : List Int} (h : (Kd.int .i64).R 3 W base (fun _ => True) (.slice (some ⟨g, 0, none⟩) ns.length c) ns) (i : Nat) (hi : i < ns.length) : W.cell? ⟨g, i, none⟩ = some (.int .i64 (rd ns (i : Int))) := (Kd.R_cell (0 : Int) h (i : Int) (by omega) (by omega)).1
theorem tcell {W : World} {base g c : Nat} {ts : List ByteArray} (h : Kd.string.R 9 W base (fun _ => True) (.slice (some ⟨g, 0, none⟩) ts.length c) ts) (i : Nat) (hi : i < ts.length) : W.cell? ⟨g, i, none⟩ = some (.string (rdOf ByteArray.empty ts (i : Int))) := (Kd.R_cell ByteArray.empty h (i : Int) (by omega) (by omega)).1
theorem clone_len {A0 : Option Addr} {c0 n0 : Nat} {l0 : List ByteArray} {w : World} (h0 : n0 = l0.length) (hr0 : Kd.C Kd.string w A0 l0.length l0) (hc0 : l0.length ≤ c0) (hl : l0.length < 8796093022208) :
  Calls Try.prog 37 #[.slice A0 n0 c0] w fun e w' => ∃ v0_ : Value, e = .returned v0_ ∧ Kd.R Kd.string 9 w' w.heap.size (fun _ => True) v0_ l0 ∧ Below w.heap.size w w' := by
 subst h0
 exact slices_CloneT.calls A0 c0 l0 l0 w hr0 hc0 (if_pos hl)
theorem enc_len {k : Nat} {x0 x1 x2 x3 x4 x5 : Int} {x6 : ByteArray} {A7 : Option Addr} {c7 n7 : Nat} {l7 : List ByteArray} {A8 : Option Addr} {c8 : Nat} {l8 : List S49} {r1 : ByteArray} {r2 : Int} {w : World} (h7 : n7 = l7.length) (hr7 : Kd.C Kd.string w A7 l7.length l7) (hc7 : l7.length ≤ c7) (hr8 : Kd.C k49 w A8 l8.length l8) (hc8 : l8.length ≤ c8) (h : letter_Encode.f k x0 x1 x2 x3 x4 x5 x6 l7 l8 = some (r1, r2)) :
  Calls Try.prog 10 #[.agg #[.int .i64 x0, .int .i64 x1, .int .i64 x2, .int .i64 x3, .int .i64 x4, .int .i64 x5, .string x6, .slice A7 n7 c7, .slice A8 l8.length c8]] w fun e w' => e = .returned (.tuple #[.string r1, .int .i64 r2]) ∧ Below w.heap.size w w' := by
 subst h7
 exact letter_Encode.calls k x0 x1 x2 x3 x4 x5 x6 A7 c7 l7 A8 c8 l8 r1 r2 w hr7 hc7 hr8 hc8 h
/-- A letter under way at block gl. -/
structure PL (w0 W : World) (gq gp gl : Nat) (ns : List Int) (ts : List ByteArray) (vN vT : Value) (x0 x1 x2 x3 x4 x5 : Int) (x6 : ByteArray) (ks : List ByteArray) (vK : Value) (ws : List S49) (vW : Value) : Prop where
 q : QR w0 W gq gp ns ts vN vT
 bl : W.heap[gl]? = some (.cells #[.int .i64 x0, .int .i64 x1, .int .i64 x2, .int .i64 x3, .int .i64 x4, .int .i64 x5, .string x6, vK, vW] 25 (0, 0))
 gel : w0.heap.size ≤ gl
 nq : gq ≠ gl
 np : gp ≠ gl
 kr : Kd.string.R 9 W w0.heap.size (fun _ => True) vK ks
 wr : k49.R 49 W w0.heap.size (fun _ => True) vW ws
section
variable {w0 W : World} {gq gp gl : Nat} {ns : List Int} {ts : List ByteArray} {vN vT : Value} {x0 x1 x2 x3 x4 x5 : Int} {x6 : ByteArray} {ks : List ByteArray} {vK : Value} {ws : List S49} {vW : Value}
theorem PL.below {W1 : World} (h : PL w0 W gq gp gl ns ts vN vT x0 x1 x2 x3 x4 x5 x6 ks vK ws vW) (hb : Below W.heap.size W W1) : PL w0 W1 gq gp gl ns ts vN vT x0 x1 x2 x3 x4 x5 x6 ks vK ws vW :=
 ⟨h.q.below hb, blk_below h.bl hb, h.gel, h.nq, h.np, Kd.R_below h.kr hb, Kd.R_below h.wr hb⟩
theorem PL.drew (h : PL w0 W gq gp gl ns ts vN vT x0 x1 x2 x3 x4 x5 x6 ks vK ws vW) : PL w0 W.drew gq gp gl ns ts vN vT x0 x1 x2 x3 x4 x5 x6 ks vK ws vW := h.below (below_drew (Below.refl _ _))
theorem PL.alloc (h : PL w0 W gq gp gl ns ts vN vT x0 x1 x2 x3 x4 x5 x6 ks vK ws vW) (o : Obj) : PL w0 (W.alloc o) gq gp gl ns ts vN vT x0 x1 x2 x3 x4 x5 x6 ks vK ws vW := h.below (below_alloc (Below.refl _ _) o)
theorem PL.push {v1 : Value} {w1 : World} {ys : List S49} (h : PL w0 W gq gp gl ns ts vN vT x0 x1 x2 x3 x4 x5 x6 ks vK ws vW) (ho : k49.R 49 w1 w0.heap.size (fun _ => True) v1 ys) (hb : Below w0.heap.size w0 w1) (hg : W.grownBy w1 vW.ownBlock) :
  w1.heap[gl]? = some (.cells #[.int .i64 x0, .int .i64 x1, .int .i64 x2, .int .i64 x3, .int .i64 x4, .int .i64 x5, .string x6, vK, vW] 25 (0, 0)) ∧ PL w0 (w1.setCell ⟨gl, 8, none⟩ v1) gq gp gl ns ts vN vT x0 x1 x2 x3 x4 x5 x6 ks vK ys v1 := by
 have b1 := blk_grown h.bl hg (Kd.R_ne h.wr h.bl (by decide))
 have q1 : QR w0 w1 gq gp ns ts vN vT := ⟨blk_grown h.q.bq hg (Kd.R_ne h.wr h.q.bq (by decide)), blk_grown h.q.bp hg (Kd.R_ne h.wr h.q.bp (by decide)), h.q.geq, h.q.gep, Kd.R_over h.q.ns h.wr (by decide) hg, Kd.R_over h.q.ts h.wr (by decide) hg, hb⟩
 exact ⟨b1, q1.set b1 h.gel h.nq h.np 8 v1, by simpa using blk_set b1 8 v1, h.gel, h.nq, h.np, Kd.R_set (Kd.R_over h.kr h.wr (by decide) hg) b1 (by decide) 8 v1, Kd.R_set ho b1 (by decide) 8 v1⟩
end
section
variable {w0 W : World} {gq gp : Nat} {ns : List Int} {ts : List ByteArray} {vN vT : Value} {x0 x1 x2 x3 x4 x5 : Int} {x6 : ByteArray} {ks : List ByteArray} {vK : Value}
theorem PL.new (hq : QR w0 W gq gp ns ts vN vT) (hk : Kd.string.R 9 W w0.heap.size (fun _ => True) vK ks) : PL w0 (W.alloc (.cells #[.int .i64 x0, .int .i64 x1, .int .i64 x2, .int .i64 x3, .int .i64 x4, .int .i64 x5, .string x6, vK, .slice none 0 0] 25)) gq gp W.heap.size ns ts vN vT x0 x1 x2 x3 x4 x5 x6 ks vK [] (.slice none 0 0) :=
 ⟨hq.alloc _, blk_new W _, hq.bel.size, by have := blk_lt hq.bq; omega, by have := blk_lt hq.bp; omega, Kd.R_alloc hk _, Kd.R_nil _ _ _ _ _⟩
theorem PL.nine {g : Nat} (hq : QR w0 W gq gp ns ts vN vT) (hb : W.heap[g]? = some (.cells #[.int .i64 0, .int .i64 0, .int .i64 0, .int .i64 0, .int .i64 0, .int .i64 0, .string (⟨#[]⟩ : ByteArray), .slice none 0 0, .slice none 0 0] 25 (0, 0))) (hg : w0.heap.size ≤ g) (nq : gq ≠ g) (np : gp ≠ g) (hk : Kd.string.R 9 W w0.heap.size (fun _ => True) vK ks) :
  PL w0 (((((((((W.setCell ⟨g, 0, none⟩ (.int .i64 x0)).setCell ⟨g, 1, none⟩ (.int .i64 x1)).setCell ⟨g, 2, none⟩ (.int .i64 x2)).setCell ⟨g, 3, none⟩ (.int .i64 x3)).setCell ⟨g, 4, none⟩ (.int .i64 x4)).setCell ⟨g, 5, none⟩ (.int .i64 x5)).setCell ⟨g, 6, none⟩ (.string x6)).setCell ⟨g, 7, none⟩ vK).setCell ⟨g, 8, none⟩ (.slice none 0 0)) gq gp g ns ts vN vT x0 x1 x2 x3 x4 x5 x6 ks vK [] (.slice none 0 0) :=
 ⟨⟨((keep9 (W := W) (g := g)).2 gq (blk_lt hq.bq) nq (by simp)).trans hq.bq, ((keep9 (W := W) (g := g)).2 gp (blk_lt hq.bp) np (by simp)).trans hq.bp, hq.geq, hq.gep, Kd.R_mono (Kd.R_keep (Kd.R_types hq.ns hb (by decide)) keep9 (fun _ hk => hk.2)) (fun _ _ => trivial), Kd.R_mono (Kd.R_keep (Kd.R_types hq.ts hb (by decide)) keep9 (fun _ hk => hk.2)) (fun _ _ => trivial), below9 hq.bel hg⟩, set9 hb, hg, nq, np, Kd.R_mono (Kd.R_keep (Kd.R_types hk hb (by decide)) keep9 (fun _ hk => hk.2)) (fun _ _ => trivial), Kd.R_nil _ _ _ _ _⟩
end
set_option maxHeartbeats 4000000 in
set_option maxRecDepth 100000 in
theorem ld_e (s : ByteArray) (ns : List Int) (ts : List ByteArray) (p e : Int) (w : World) (hf : pack_Decode.f s = some (ns, ts, p, e)) (he : e ≠ 0) :
  Calls Try.prog 24 #[.string s] w (NoLetE w) := by
 have e1 : (e == 0) = false := beq_eq_false_iff_ne.2 he
 have e2 : (e != 0) = true := bne_iff_ne.2 he
 clear he
 have hu25 := Try.underlying25
 have hu47 := Try.underlying47
 have HF := Aside0.mk hf
 clear hf
 go_enter Try.func24, Try.ntmps24
 go_upto_region 2 with (first | ((with_reducible refine gate_dst (N := 2) rfl ?_); refine box_event ?hg (N := 2) ?hd (cs := #[.int .i64 0, .int .i64 0, .int .i64 0, .int .i64 0, .int .i64 0, .int .i64 0, .string (⟨#[]⟩ : ByteArray), .slice none 0 0, .slice none 0 0]) (t := 25) ?hr ?_; (case hd => rfl); (case hg => rfl); (case hr => first | (go_simp; done) | (go_simp; rfl)); intro gq hgg w1 hbox hb; have GQ := Aside0.mk (Nat.le_of_eq hgg.symm); have BQ := Aside0.mk hbox; have BA := Aside0.mk hb; clear hgg hbox hb) | (go_at_call 36; refine (pack_Decode.calls s _ _ _ _ _ HF.out).mono ?_; rintro x w2 ⟨v0, v1, rfl, hN, hT, hb⟩; obtain ⟨AN, cN, eN⟩ := Kd.R_slice hN; subst eN; obtain ⟨AT, cT, eT⟩ := Kd.R_slice hT; subst eT; have GN := Aside0.mk (Kd.R_lower hN (below_size BA.out)); have GT := Aside0.mk (Kd.R_lower hT (below_size BA.out)); have BC := Aside0.mk (below_step BA.out hb); have BQ2 := Aside0.mk (blk_below BQ.out hb); clear hN hT hb) | ((with_reducible refine gate_dst (N := 4) rfl ?_); refine box_event ?hg (N := 4) ?hd (cs := #[.slice none 0 0, .slice none 0 0]) (t := 47) ?hr ?_; (case hd => rfl); (case hg => rfl); (case hr => first | (go_simp; done) | (go_simp; rfl)); intro gp hgp w3 hbox hb; have HQ := Aside0.mk (qr_of GQ.out BQ2.out hbox hgp GN.out GT.out BC.out hb); have hz0 : w3.cell? ⟨gp, 0, none⟩ = some (.slice none 0 0) := (blk_cell hbox 0).trans rfl; have hz1 : w3.cell? ⟨gp, 1, none⟩ = some (.slice none 0 0) := (blk_cell hbox 1).trans rfl; have hzf0 := blk_frozen hbox 0; have hzf1 := blk_frozen hbox 1; clear hgp hbox hb))
 generalize eW : (w3.setCell ⟨gp, 0, none⟩ (.slice AN ns.length cN)).setCell ⟨gp, 1, none⟩ (.slice AT ts.length cT) = W at HQ ⊢
 clear eW hz0 hz1 hzf0 hzf1 GN GT BC BQ2 BQ BA GQ
 have hP0 : W.cell? ⟨gp, 0, none⟩ = some (.slice AN ns.length cN) := (blk_cell HQ.out.bp 0).trans rfl
 have hP1 : W.cell? ⟨gp, 1, none⟩ = some (.slice AT ts.length cT) := (blk_cell HQ.out.bp 1).trans rfl
 have hq0 : W.cell? ⟨gq, 0, none⟩ = some (.int .i64 0) := (blk_cell HQ.out.bq 0).trans rfl
 have hqf0 := blk_frozen HQ.out.bq 0
 have hq1 : W.cell? ⟨gq, 1, none⟩ = some (.int .i64 0) := (blk_cell HQ.out.bq 1).trans rfl
 have hqf1 := blk_frozen HQ.out.bq 1
 have hq2 : W.cell? ⟨gq, 2, none⟩ = some (.int .i64 0) := (blk_cell HQ.out.bq 2).trans rfl
 have hqf2 := blk_frozen HQ.out.bq 2
 have hq3 : W.cell? ⟨gq, 3, none⟩ = some (.int .i64 0) := (blk_cell HQ.out.bq 3).trans rfl
 have hqf3 := blk_frozen HQ.out.bq 3
 have hq4 : W.cell? ⟨gq, 4, none⟩ = some (.int .i64 0) := (blk_cell HQ.out.bq 4).trans rfl
 have hqf4 := blk_frozen HQ.out.bq 4
 have hq5 : W.cell? ⟨gq, 5, none⟩ = some (.int .i64 0) := (blk_cell HQ.out.bq 5).trans rfl
 have hqf5 := blk_frozen HQ.out.bq 5
 have hq6 : W.cell? ⟨gq, 6, none⟩ = some (.string (⟨#[]⟩ : ByteArray)) := (blk_cell HQ.out.bq 6).trans rfl
 have hqf6 := blk_frozen HQ.out.bq 6
 have hq7 : W.cell? ⟨gq, 7, none⟩ = some (.slice none 0 0) := (blk_cell HQ.out.bq 7).trans rfl
 have hqf7 := blk_frozen HQ.out.bq 7
 have hq8 : W.cell? ⟨gq, 8, none⟩ = some (.slice none 0 0) := (blk_cell HQ.out.bq 8).trans rfl
 have hqf8 := blk_frozen HQ.out.bq 8
 go_wp2
 refine bodyPost_ret (results_ct rfl _ _ gq 25 #[.int .i64 0, .int .i64 0, .int .i64 0, .int .i64 0, .int .i64 0, .int .i64 0, .string (⟨#[]⟩ : ByteArray), .slice none 0 0, .slice none 0 0] (0, 0) _ rfl (set9 HQ.out.bq) Try.underlying25 rfl (by kernel_rfl)) rfl ?_
 exact ⟨rfl, below9 HQ.out.bel HQ.out.geq⟩
set_option maxHeartbeats 4000000 in
set_option maxRecDepth 100000 in
theorem ld_n (s : ByteArray) (ns : List Int) (ts : List ByteArray) (p : Int) (w : World) (hf : pack_Decode.f s = some (ns, ts, p, 0)) (hn : ns.length < 7) :
  Calls Try.prog 24 #[.string s] w (NoLetE w) := by
 have e1 : decide ((ns.length : Int) < 7) = true := decide_eq_true (by omega)
 have e2 : decide (ns.length < 7) = true := decide_eq_true hn
 clear hn
 have hu25 := Try.underlying25
 have hu47 := Try.underlying47
 have HF := Aside0.mk hf
 clear hf
 go_enter Try.func24, Try.ntmps24
 go_upto_region 2 with (first | ((with_reducible refine gate_dst (N := 2) rfl ?_); refine box_event ?hg (N := 2) ?hd (cs := #[.int .i64 0, .int .i64 0, .int .i64 0, .int .i64 0, .int .i64 0, .int .i64 0, .string (⟨#[]⟩ : ByteArray), .slice none 0 0, .slice none 0 0]) (t := 25) ?hr ?_; (case hd => rfl); (case hg => rfl); (case hr => first | (go_simp; done) | (go_simp; rfl)); intro gq hgg w1 hbox hb; have GQ := Aside0.mk (Nat.le_of_eq hgg.symm); have BQ := Aside0.mk hbox; have BA := Aside0.mk hb; clear hgg hbox hb) | (go_at_call 36; refine (pack_Decode.calls s _ _ _ _ _ HF.out).mono ?_; rintro x w2 ⟨v0, v1, rfl, hN, hT, hb⟩; obtain ⟨AN, cN, eN⟩ := Kd.R_slice hN; subst eN; obtain ⟨AT, cT, eT⟩ := Kd.R_slice hT; subst eT; have GN := Aside0.mk (Kd.R_lower hN (below_size BA.out)); have GT := Aside0.mk (Kd.R_lower hT (below_size BA.out)); have BC := Aside0.mk (below_step BA.out hb); have BQ2 := Aside0.mk (blk_below BQ.out hb); clear hN hT hb) | ((with_reducible refine gate_dst (N := 4) rfl ?_); refine box_event ?hg (N := 4) ?hd (cs := #[.slice none 0 0, .slice none 0 0]) (t := 47) ?hr ?_; (case hd => rfl); (case hg => rfl); (case hr => first | (go_simp; done) | (go_simp; rfl)); intro gp hgp w3 hbox hb; have HQ := Aside0.mk (qr_of GQ.out BQ2.out hbox hgp GN.out GT.out BC.out hb); have hz0 : w3.cell? ⟨gp, 0, none⟩ = some (.slice none 0 0) := (blk_cell hbox 0).trans rfl; have hz1 : w3.cell? ⟨gp, 1, none⟩ = some (.slice none 0 0) := (blk_cell hbox 1).trans rfl; have hzf0 := blk_frozen hbox 0; have hzf1 := blk_frozen hbox 1; clear hgp hbox hb))
 generalize eW : (w3.setCell ⟨gp, 0, none⟩ (.slice AN ns.length cN)).setCell ⟨gp, 1, none⟩ (.slice AT ts.length cT) = W at HQ ⊢
 clear eW hz0 hz1 hzf0 hzf1 GN GT BC BQ2 BQ BA GQ
 have hP0 : W.cell? ⟨gp, 0, none⟩ = some (.slice AN ns.length cN) := (blk_cell HQ.out.bp 0).trans rfl
 have hP1 : W.cell? ⟨gp, 1, none⟩ = some (.slice AT ts.length cT) := (blk_cell HQ.out.bp 1).trans rfl
 have hq0 : W.cell? ⟨gq, 0, none⟩ = some (.int .i64 0) := (blk_cell HQ.out.bq 0).trans rfl
 have hqf0 := blk_frozen HQ.out.bq 0
 have hq1 : W.cell? ⟨gq, 1, none⟩ = some (.int .i64 0) := (blk_cell HQ.out.bq 1).trans rfl
 have hqf1 := blk_frozen HQ.out.bq 1
 have hq2 : W.cell? ⟨gq, 2, none⟩ = some (.int .i64 0) := (blk_cell HQ.out.bq 2).trans rfl
 have hqf2 := blk_frozen HQ.out.bq 2
 have hq3 : W.cell? ⟨gq, 3, none⟩ = some (.int .i64 0) := (blk_cell HQ.out.bq 3).trans rfl
 have hqf3 := blk_frozen HQ.out.bq 3
 have hq4 : W.cell? ⟨gq, 4, none⟩ = some (.int .i64 0) := (blk_cell HQ.out.bq 4).trans rfl
 have hqf4 := blk_frozen HQ.out.bq 4
 have hq5 : W.cell? ⟨gq, 5, none⟩ = some (.int .i64 0) := (blk_cell HQ.out.bq 5).trans rfl
 have hqf5 := blk_frozen HQ.out.bq 5
 have hq6 : W.cell? ⟨gq, 6, none⟩ = some (.string (⟨#[]⟩ : ByteArray)) := (blk_cell HQ.out.bq 6).trans rfl
 have hqf6 := blk_frozen HQ.out.bq 6
 have hq7 : W.cell? ⟨gq, 7, none⟩ = some (.slice none 0 0) := (blk_cell HQ.out.bq 7).trans rfl
 have hqf7 := blk_frozen HQ.out.bq 7
 have hq8 : W.cell? ⟨gq, 8, none⟩ = some (.slice none 0 0) := (blk_cell HQ.out.bq 8).trans rfl
 have hqf8 := blk_frozen HQ.out.bq 8
 go_wp2
 refine bodyPost_ret (results_ct rfl _ _ gq 25 #[.int .i64 0, .int .i64 0, .int .i64 0, .int .i64 0, .int .i64 0, .int .i64 0, .string (⟨#[]⟩ : ByteArray), .slice none 0 0, .slice none 0 0] (0, 0) _ rfl (set9 HQ.out.bq) Try.underlying25 rfl (by kernel_rfl)) rfl ?_
 exact ⟨rfl, below9 HQ.out.bel HQ.out.geq⟩
set_option maxHeartbeats 4000000 in
set_option maxRecDepth 100000 in
theorem ld_t (s : ByteArray) (ns : List Int) (ts : List ByteArray) (p : Int) (w : World) (hf : pack_Decode.f s = some (ns, ts, p, 0)) (hn : 7 ≤ ns.length) (ht : ts = []) :
  Calls Try.prog 24 #[.string s] w (NoLetE w) := by
 have e1 : decide ((ns.length : Int) < 7) = false := decide_eq_false (by omega)
 have e2 : decide (ns.length < 7) = false := decide_eq_false (by omega)
 have HT := Aside0.mk ht
 clear hn ht
 have hu25 := Try.underlying25
 have hu47 := Try.underlying47
 have HF := Aside0.mk hf
 clear hf
 go_enter Try.func24, Try.ntmps24
 go_upto_region 2 with (first | ((with_reducible refine gate_dst (N := 2) rfl ?_); refine box_event ?hg (N := 2) ?hd (cs := #[.int .i64 0, .int .i64 0, .int .i64 0, .int .i64 0, .int .i64 0, .int .i64 0, .string (⟨#[]⟩ : ByteArray), .slice none 0 0, .slice none 0 0]) (t := 25) ?hr ?_; (case hd => rfl); (case hg => rfl); (case hr => first | (go_simp; done) | (go_simp; rfl)); intro gq hgg w1 hbox hb; have GQ := Aside0.mk (Nat.le_of_eq hgg.symm); have BQ := Aside0.mk hbox; have BA := Aside0.mk hb; clear hgg hbox hb) | (go_at_call 36; refine (pack_Decode.calls s _ _ _ _ _ HF.out).mono ?_; rintro x w2 ⟨v0, v1, rfl, hN, hT, hb⟩; obtain ⟨AN, cN, eN⟩ := Kd.R_slice hN; subst eN; obtain ⟨AT, cT, eT⟩ := Kd.R_slice hT; subst eT; have GN := Aside0.mk (Kd.R_lower hN (below_size BA.out)); have GT := Aside0.mk (Kd.R_lower hT (below_size BA.out)); have BC := Aside0.mk (below_step BA.out hb); have BQ2 := Aside0.mk (blk_below BQ.out hb); clear hN hT hb) | ((with_reducible refine gate_dst (N := 4) rfl ?_); refine box_event ?hg (N := 4) ?hd (cs := #[.slice none 0 0, .slice none 0 0]) (t := 47) ?hr ?_; (case hd => rfl); (case hg => rfl); (case hr => first | (go_simp; done) | (go_simp; rfl)); intro gp hgp w3 hbox hb; have HQ := Aside0.mk (qr_of GQ.out BQ2.out hbox hgp GN.out GT.out BC.out hb); have hz0 : w3.cell? ⟨gp, 0, none⟩ = some (.slice none 0 0) := (blk_cell hbox 0).trans rfl; have hz1 : w3.cell? ⟨gp, 1, none⟩ = some (.slice none 0 0) := (blk_cell hbox 1).trans rfl; have hzf0 := blk_frozen hbox 0; have hzf1 := blk_frozen hbox 1; clear hgp hbox hb))
 generalize eW : (w3.setCell ⟨gp, 0, none⟩ (.slice AN ns.length cN)).setCell ⟨gp, 1, none⟩ (.slice AT ts.length cT) = W at HQ ⊢
 clear eW hz0 hz1 hzf0 hzf1 GN GT BC BQ2 BQ BA GQ
 have hP0 : W.cell? ⟨gp, 0, none⟩ = some (.slice AN ns.length cN) := (blk_cell HQ.out.bp 0).trans rfl
 have hP1 : W.cell? ⟨gp, 1, none⟩ = some (.slice AT ts.length cT) := (blk_cell HQ.out.bp 1).trans rfl
 have hq0 : W.cell? ⟨gq, 0, none⟩ = some (.int .i64 0) := (blk_cell HQ.out.bq 0).trans rfl
 have hqf0 := blk_frozen HQ.out.bq 0
 have hq1 : W.cell? ⟨gq, 1, none⟩ = some (.int .i64 0) := (blk_cell HQ.out.bq 1).trans rfl
 have hqf1 := blk_frozen HQ.out.bq 1
 have hq2 : W.cell? ⟨gq, 2, none⟩ = some (.int .i64 0) := (blk_cell HQ.out.bq 2).trans rfl
 have hqf2 := blk_frozen HQ.out.bq 2
 have hq3 : W.cell? ⟨gq, 3, none⟩ = some (.int .i64 0) := (blk_cell HQ.out.bq 3).trans rfl
 have hqf3 := blk_frozen HQ.out.bq 3
 have hq4 : W.cell? ⟨gq, 4, none⟩ = some (.int .i64 0) := (blk_cell HQ.out.bq 4).trans rfl
 have hqf4 := blk_frozen HQ.out.bq 4
 have hq5 : W.cell? ⟨gq, 5, none⟩ = some (.int .i64 0) := (blk_cell HQ.out.bq 5).trans rfl
 have hqf5 := blk_frozen HQ.out.bq 5
 have hq6 : W.cell? ⟨gq, 6, none⟩ = some (.string (⟨#[]⟩ : ByteArray)) := (blk_cell HQ.out.bq 6).trans rfl
 have hqf6 := blk_frozen HQ.out.bq 6
 have hq7 : W.cell? ⟨gq, 7, none⟩ = some (.slice none 0 0) := (blk_cell HQ.out.bq 7).trans rfl
 have hqf7 := blk_frozen HQ.out.bq 7
 have hq8 : W.cell? ⟨gq, 8, none⟩ = some (.slice none 0 0) := (blk_cell HQ.out.bq 8).trans rfl
 have hqf8 := blk_frozen HQ.out.bq 8
 obtain rfl := HT.out
 simp only [List.length_nil] at hP1
 go_wp2
 refine bodyPost_ret (results_ct rfl _ _ gq 25 #[.int .i64 0, .int .i64 0, .int .i64 0, .int .i64 0, .int .i64 0, .int .i64 0, .string (⟨#[]⟩ : ByteArray), .slice none 0 0, .slice none 0 0] (0, 0) _ rfl (set9 HQ.out.bq) Try.underlying25 rfl (by kernel_rfl)) rfl ?_
 exact ⟨rfl, below9 HQ.out.bel HQ.out.geq⟩
set_option maxHeartbeats 4000000 in
set_option maxRecDepth 100000 in
theorem ld_m1 (s : ByteArray) (ns : List Int) (ts : List ByteArray) (p : Int) (w : World) (hf : pack_Decode.f s = some (ns, ts, p, 0)) (hn : 7 ≤ ns.length) (ht : 1 ≤ ts.length) (hm : rd ns 6 < 0) :
  Calls Try.prog 24 #[.string s] w (NoLetE w) := by
 have e1 : decide ((ns.length : Int) < 7) = false := decide_eq_false (by omega)
 have e2 : decide (ns.length < 7) = false := decide_eq_false (by omega)
 have e3 : decide ((ts.length : Int) < 1) = false := decide_eq_false (by omega)
 have e4 : decide (ts.length < 1) = false := decide_eq_false (by omega)
 have e5 : ¬ (ts.length = 0) := by omega
 have e6 : ¬ (ts = []) := fun h => by rw [h] at ht; exact absurd ht (by decide)
 have hl7 := hn
 have hl1 := ht
 have m1 : decide (rd ns 6 < 0) = true := decide_eq_true hm
 clear hn ht
 have hu25 := Try.underlying25
 have hu47 := Try.underlying47
 have HF := Aside0.mk hf
 clear hf
 go_enter Try.func24, Try.ntmps24
 go_upto_region 2 with (first | ((with_reducible refine gate_dst (N := 2) rfl ?_); refine box_event ?hg (N := 2) ?hd (cs := #[.int .i64 0, .int .i64 0, .int .i64 0, .int .i64 0, .int .i64 0, .int .i64 0, .string (⟨#[]⟩ : ByteArray), .slice none 0 0, .slice none 0 0]) (t := 25) ?hr ?_; (case hd => rfl); (case hg => rfl); (case hr => first | (go_simp; done) | (go_simp; rfl)); intro gq hgg w1 hbox hb; have GQ := Aside0.mk (Nat.le_of_eq hgg.symm); have BQ := Aside0.mk hbox; have BA := Aside0.mk hb; clear hgg hbox hb) | (go_at_call 36; refine (pack_Decode.calls s _ _ _ _ _ HF.out).mono ?_; rintro x w2 ⟨v0, v1, rfl, hN, hT, hb⟩; obtain ⟨AN, cN, eN⟩ := Kd.R_slice hN; subst eN; obtain ⟨AT, cT, eT⟩ := Kd.R_slice hT; subst eT; have GN := Aside0.mk (Kd.R_lower hN (below_size BA.out)); have GT := Aside0.mk (Kd.R_lower hT (below_size BA.out)); have BC := Aside0.mk (below_step BA.out hb); have BQ2 := Aside0.mk (blk_below BQ.out hb); clear hN hT hb) | ((with_reducible refine gate_dst (N := 4) rfl ?_); refine box_event ?hg (N := 4) ?hd (cs := #[.slice none 0 0, .slice none 0 0]) (t := 47) ?hr ?_; (case hd => rfl); (case hg => rfl); (case hr => first | (go_simp; done) | (go_simp; rfl)); intro gp hgp w3 hbox hb; have HQ := Aside0.mk (qr_of GQ.out BQ2.out hbox hgp GN.out GT.out BC.out hb); have hz0 : w3.cell? ⟨gp, 0, none⟩ = some (.slice none 0 0) := (blk_cell hbox 0).trans rfl; have hz1 : w3.cell? ⟨gp, 1, none⟩ = some (.slice none 0 0) := (blk_cell hbox 1).trans rfl; have hzf0 := blk_frozen hbox 0; have hzf1 := blk_frozen hbox 1; clear hgp hbox hb))
 generalize eW : (w3.setCell ⟨gp, 0, none⟩ (.slice AN ns.length cN)).setCell ⟨gp, 1, none⟩ (.slice AT ts.length cT) = W at HQ ⊢
 clear eW hz0 hz1 hzf0 hzf1 GN GT BC BQ2 BQ BA GQ
 have hP0 : W.cell? ⟨gp, 0, none⟩ = some (.slice AN ns.length cN) := (blk_cell HQ.out.bp 0).trans rfl
 have hP1 : W.cell? ⟨gp, 1, none⟩ = some (.slice AT ts.length cT) := (blk_cell HQ.out.bp 1).trans rfl
 have hq0 : W.cell? ⟨gq, 0, none⟩ = some (.int .i64 0) := (blk_cell HQ.out.bq 0).trans rfl
 have hqf0 := blk_frozen HQ.out.bq 0
 have hq1 : W.cell? ⟨gq, 1, none⟩ = some (.int .i64 0) := (blk_cell HQ.out.bq 1).trans rfl
 have hqf1 := blk_frozen HQ.out.bq 1
 have hq2 : W.cell? ⟨gq, 2, none⟩ = some (.int .i64 0) := (blk_cell HQ.out.bq 2).trans rfl
 have hqf2 := blk_frozen HQ.out.bq 2
 have hq3 : W.cell? ⟨gq, 3, none⟩ = some (.int .i64 0) := (blk_cell HQ.out.bq 3).trans rfl
 have hqf3 := blk_frozen HQ.out.bq 3
 have hq4 : W.cell? ⟨gq, 4, none⟩ = some (.int .i64 0) := (blk_cell HQ.out.bq 4).trans rfl
 have hqf4 := blk_frozen HQ.out.bq 4
 have hq5 : W.cell? ⟨gq, 5, none⟩ = some (.int .i64 0) := (blk_cell HQ.out.bq 5).trans rfl
 have hqf5 := blk_frozen HQ.out.bq 5
 have hq6 : W.cell? ⟨gq, 6, none⟩ = some (.string (⟨#[]⟩ : ByteArray)) := (blk_cell HQ.out.bq 6).trans rfl
 have hqf6 := blk_frozen HQ.out.bq 6
 have hq7 : W.cell? ⟨gq, 7, none⟩ = some (.slice none 0 0) := (blk_cell HQ.out.bq 7).trans rfl
 have hqf7 := blk_frozen HQ.out.bq 7
 have hq8 : W.cell? ⟨gq, 8, none⟩ = some (.slice none 0 0) := (blk_cell HQ.out.bq 8).trans rfl
 have hqf8 := blk_frozen HQ.out.bq 8
 obtain ⟨gn, cn, eN, gnb, gnl, cellsN, hcN⟩ := Kd.R_form HQ.out.ns (by omega)
 obtain ⟨gt, ct, eT, gtb, gtl, cellsT, hcT⟩ := Kd.R_form HQ.out.ts (by omega)
 have eN' : AN = some ⟨gn, 0, none⟩ ∧ cN = cn := by simpa using eN
 have eT' : AT = some ⟨gt, 0, none⟩ ∧ cT = ct := by simpa using eT
 obtain ⟨rfl, rfl⟩ := eN'
 obtain ⟨rfl, rfl⟩ := eT'
 obtain ⟨_, hcapN, hCN⟩ := Kd.R_reads' HQ.out.ns
 obtain ⟨_, hcapT, hCT⟩ := Kd.R_reads' HQ.out.ts
 clear eN eT hcN hcT gnb gnl gtb gtl
 obtain ⟨_, eA, hn0⟩ := Kd.at_int hCN 0 (by decide) (by omega)
 cases eA
 replace hn0 : W.cell? ⟨gn, 0, none⟩ = some (.int .i64 (rd ns 0)) := by simpa [add_plain] using hn0
 obtain ⟨_, eA, hn1⟩ := Kd.at_int hCN 1 (by decide) (by omega)
 cases eA
 replace hn1 : W.cell? ⟨gn, 1, none⟩ = some (.int .i64 (rd ns 1)) := by simpa [add_plain] using hn1
 obtain ⟨_, eA, hn2⟩ := Kd.at_int hCN 2 (by decide) (by omega)
 cases eA
 replace hn2 : W.cell? ⟨gn, 2, none⟩ = some (.int .i64 (rd ns 2)) := by simpa [add_plain] using hn2
 obtain ⟨_, eA, hn3⟩ := Kd.at_int hCN 3 (by decide) (by omega)
 cases eA
 replace hn3 : W.cell? ⟨gn, 3, none⟩ = some (.int .i64 (rd ns 3)) := by simpa [add_plain] using hn3
 obtain ⟨_, eA, hn4⟩ := Kd.at_int hCN 4 (by decide) (by omega)
 cases eA
 replace hn4 : W.cell? ⟨gn, 4, none⟩ = some (.int .i64 (rd ns 4)) := by simpa [add_plain] using hn4
 obtain ⟨_, eA, hn5⟩ := Kd.at_int hCN 5 (by decide) (by omega)
 cases eA
 replace hn5 : W.cell? ⟨gn, 5, none⟩ = some (.int .i64 (rd ns 5)) := by simpa [add_plain] using hn5
 obtain ⟨_, eA, hn6⟩ := Kd.at_int hCN 6 (by decide) (by omega)
 cases eA
 replace hn6 : W.cell? ⟨gn, 6, none⟩ = some (.int .i64 (rd ns 6)) := by simpa [add_plain] using hn6
 obtain ⟨_, eA, ht0⟩ := Kd.at_string hCT 0 (by decide) (by omega)
 cases eA
 replace ht0 : W.cell? ⟨gt, 0, none⟩ = some (.string (rdOf ByteArray.empty ts 0)) := by simpa [add_plain] using ht0
 go_wp2
 obtain ⟨i3, hi3, hz3⟩ := Option.map_eq_some_iff.1 info3
 have hs3 : i3.size = 1 := by simpa using congrArg (fun x => x.2.1) hz3
 have hcutN := fun W => cut_from (P := Try.prog) 45 3 .i64 Try.underlying45 hi3 1 hs3 (some ⟨gn, 0, none⟩) ns.length cN 7 (by decide) (by omega) W
 have hsameN : (if cN = (7 : Int).toNat then (some ⟨gn, 0, none⟩ : Option Addr) else (some ⟨gn, 0, none⟩ : Option Addr).map (·.add ((7 : Int).toNat * 1))) = (if cN = 7 then (some ⟨gn, 0, none⟩ : Option Addr) else (some ⟨gn, 0, none⟩ : Option Addr).map (·.add (7 * (Kd.int .i64).sz))) := rfl
 rw [hsameN] at hcutN
 obtain ⟨AF, hAF⟩ : ∃ A, A = (if cN = 7 then (some ⟨gn, 0, none⟩ : Option Addr) else (some ⟨gn, 0, none⟩ : Option Addr).map (·.add (7 * (Kd.int .i64).sz))) := ⟨_, rfl⟩
 rw [← hAF] at hcutN
 have HMF : Aside0 (∀ W', (Kd.int .i64).C W' (some ⟨gn, 0, none⟩) ns.length ns → (Kd.int .i64).C W' AF (ns.drop 7).length (ns.drop 7)) := ⟨fun W' h => by rw [hAF]; exact Kd.C_drop (m := 7) h (by omega) hcapN⟩
 have q5 : (7 : Int) ≤ (ns.length : Int) := by omega
 have j6 : (6 : Int) < (ns.length : Int) := by omega
 have jj6 : 6 < ns.length := by omega
 have jn : ¬ (ns = []) := fun h => by rw [h] at hl7; exact absurd hl7 (by decide)
 have HCAPN := Aside0.mk hcapN
 have HCAP := Aside0.mk hcapT
 clear hsameN hAF hs3 hz3 hi3 hcapN hcapT hCN hCT
 go_region_held3 (fun W => W.cell? ⟨gp, 0, none⟩ = some (.slice (some ⟨gn, 0, none⟩) ns.length cN) ∧ W.cell? ⟨gn, 6, none⟩ = some (.int .i64 (rd ns 6))) (go_keep) (fail)
 have HQ1 := Aside0.mk HQ.out.drew
 generalize eW : W.drew = W1 at HQ1 ⊢
 clear eW HQ hP0 hP1 hn0 hn1 hn2 hn3 hn4 hn5 hn6 ht0 hq0 hqf0 hq1 hqf1 hq2 hqf2 hq3 hqf3 hq4 hqf4 hq5 hqf5 hq6 hqf6 hq7 hqf7 hq8 hqf8
 have hq0 : W1.cell? ⟨gq, 0, none⟩ = some (.int .i64 0) := (blk_cell HQ1.out.bq 0).trans rfl
 have hqf0 := blk_frozen HQ1.out.bq 0
 have hq1 : W1.cell? ⟨gq, 1, none⟩ = some (.int .i64 0) := (blk_cell HQ1.out.bq 1).trans rfl
 have hqf1 := blk_frozen HQ1.out.bq 1
 have hq2 : W1.cell? ⟨gq, 2, none⟩ = some (.int .i64 0) := (blk_cell HQ1.out.bq 2).trans rfl
 have hqf2 := blk_frozen HQ1.out.bq 2
 have hq3 : W1.cell? ⟨gq, 3, none⟩ = some (.int .i64 0) := (blk_cell HQ1.out.bq 3).trans rfl
 have hqf3 := blk_frozen HQ1.out.bq 3
 have hq4 : W1.cell? ⟨gq, 4, none⟩ = some (.int .i64 0) := (blk_cell HQ1.out.bq 4).trans rfl
 have hqf4 := blk_frozen HQ1.out.bq 4
 have hq5 : W1.cell? ⟨gq, 5, none⟩ = some (.int .i64 0) := (blk_cell HQ1.out.bq 5).trans rfl
 have hqf5 := blk_frozen HQ1.out.bq 5
 have hq6 : W1.cell? ⟨gq, 6, none⟩ = some (.string (⟨#[]⟩ : ByteArray)) := (blk_cell HQ1.out.bq 6).trans rfl
 have hqf6 := blk_frozen HQ1.out.bq 6
 have hq7 : W1.cell? ⟨gq, 7, none⟩ = some (.slice none 0 0) := (blk_cell HQ1.out.bq 7).trans rfl
 have hqf7 := blk_frozen HQ1.out.bq 7
 have hq8 : W1.cell? ⟨gq, 8, none⟩ = some (.slice none 0 0) := (blk_cell HQ1.out.bq 8).trans rfl
 have hqf8 := blk_frozen HQ1.out.bq 8
 have hP0 : W1.cell? ⟨gp, 0, none⟩ = some (.slice (some ⟨gn, 0, none⟩) ns.length cN) := (blk_cell HQ1.out.bp 0).trans rfl
 have hP1 : W1.cell? ⟨gp, 1, none⟩ = some (.slice (some ⟨gt, 0, none⟩) ts.length cT) := (blk_cell HQ1.out.bp 1).trans rfl
 go_wp2
 refine bodyPost_ret (results_ct rfl _ _ gq 25 #[.int .i64 0, .int .i64 0, .int .i64 0, .int .i64 0, .int .i64 0, .int .i64 0, .string (⟨#[]⟩ : ByteArray), .slice none 0 0, .slice none 0 0] (0, 0) _ rfl (set9 HQ1.out.bq) Try.underlying25 rfl (by kernel_rfl)) rfl ?_
 exact ⟨rfl, below9 HQ1.out.bel HQ1.out.geq⟩
set_option maxHeartbeats 4000000 in
set_option maxRecDepth 100000 in
theorem ld_m2 (s : ByteArray) (ns : List Int) (ts : List ByteArray) (p : Int) (w : World) (hf : pack_Decode.f s = some (ns, ts, p, 0)) (hn : 7 ≤ ns.length) (ht : 1 ≤ ts.length) (hb : ts.length ≤ 1024) (hm : 0 ≤ rd ns 6) (hm2 : (ts.length : Int) ≤ rd ns 6) :
  Calls Try.prog 24 #[.string s] w (NoLetE w) := by
 have e1 : decide ((ns.length : Int) < 7) = false := decide_eq_false (by omega)
 have e2 : decide (ns.length < 7) = false := decide_eq_false (by omega)
 have e3 : decide ((ts.length : Int) < 1) = false := decide_eq_false (by omega)
 have e4 : decide (ts.length < 1) = false := decide_eq_false (by omega)
 have e5 : ¬ (ts.length = 0) := by omega
 have e6 : ¬ (ts = []) := fun h => by rw [h] at ht; exact absurd ht (by decide)
 have hl7 := hn
 have hl1 := ht
 have m1 : decide (rd ns 6 < 0) = false := decide_eq_false (by omega)
 have m2 : decide ((ts.length : Int) ≤ rd ns 6) = true := decide_eq_true hm2
 clear hn ht
 have hu25 := Try.underlying25
 have hu47 := Try.underlying47
 have HF := Aside0.mk hf
 clear hf
 go_enter Try.func24, Try.ntmps24
 go_upto_region 2 with (first | ((with_reducible refine gate_dst (N := 2) rfl ?_); refine box_event ?hg (N := 2) ?hd (cs := #[.int .i64 0, .int .i64 0, .int .i64 0, .int .i64 0, .int .i64 0, .int .i64 0, .string (⟨#[]⟩ : ByteArray), .slice none 0 0, .slice none 0 0]) (t := 25) ?hr ?_; (case hd => rfl); (case hg => rfl); (case hr => first | (go_simp; done) | (go_simp; rfl)); intro gq hgg w1 hbox hb; have GQ := Aside0.mk (Nat.le_of_eq hgg.symm); have BQ := Aside0.mk hbox; have BA := Aside0.mk hb; clear hgg hbox hb) | (go_at_call 36; refine (pack_Decode.calls s _ _ _ _ _ HF.out).mono ?_; rintro x w2 ⟨v0, v1, rfl, hN, hT, hb⟩; obtain ⟨AN, cN, eN⟩ := Kd.R_slice hN; subst eN; obtain ⟨AT, cT, eT⟩ := Kd.R_slice hT; subst eT; have GN := Aside0.mk (Kd.R_lower hN (below_size BA.out)); have GT := Aside0.mk (Kd.R_lower hT (below_size BA.out)); have BC := Aside0.mk (below_step BA.out hb); have BQ2 := Aside0.mk (blk_below BQ.out hb); clear hN hT hb) | ((with_reducible refine gate_dst (N := 4) rfl ?_); refine box_event ?hg (N := 4) ?hd (cs := #[.slice none 0 0, .slice none 0 0]) (t := 47) ?hr ?_; (case hd => rfl); (case hg => rfl); (case hr => first | (go_simp; done) | (go_simp; rfl)); intro gp hgp w3 hbox hb; have HQ := Aside0.mk (qr_of GQ.out BQ2.out hbox hgp GN.out GT.out BC.out hb); have hz0 : w3.cell? ⟨gp, 0, none⟩ = some (.slice none 0 0) := (blk_cell hbox 0).trans rfl; have hz1 : w3.cell? ⟨gp, 1, none⟩ = some (.slice none 0 0) := (blk_cell hbox 1).trans rfl; have hzf0 := blk_frozen hbox 0; have hzf1 := blk_frozen hbox 1; clear hgp hbox hb))
 generalize eW : (w3.setCell ⟨gp, 0, none⟩ (.slice AN ns.length cN)).setCell ⟨gp, 1, none⟩ (.slice AT ts.length cT) = W at HQ ⊢
 clear eW hz0 hz1 hzf0 hzf1 GN GT BC BQ2 BQ BA GQ
 have hP0 : W.cell? ⟨gp, 0, none⟩ = some (.slice AN ns.length cN) := (blk_cell HQ.out.bp 0).trans rfl
 have hP1 : W.cell? ⟨gp, 1, none⟩ = some (.slice AT ts.length cT) := (blk_cell HQ.out.bp 1).trans rfl
 have hq0 : W.cell? ⟨gq, 0, none⟩ = some (.int .i64 0) := (blk_cell HQ.out.bq 0).trans rfl
 have hqf0 := blk_frozen HQ.out.bq 0
 have hq1 : W.cell? ⟨gq, 1, none⟩ = some (.int .i64 0) := (blk_cell HQ.out.bq 1).trans rfl
 have hqf1 := blk_frozen HQ.out.bq 1
 have hq2 : W.cell? ⟨gq, 2, none⟩ = some (.int .i64 0) := (blk_cell HQ.out.bq 2).trans rfl
 have hqf2 := blk_frozen HQ.out.bq 2
 have hq3 : W.cell? ⟨gq, 3, none⟩ = some (.int .i64 0) := (blk_cell HQ.out.bq 3).trans rfl
 have hqf3 := blk_frozen HQ.out.bq 3
 have hq4 : W.cell? ⟨gq, 4, none⟩ = some (.int .i64 0) := (blk_cell HQ.out.bq 4).trans rfl
 have hqf4 := blk_frozen HQ.out.bq 4
 have hq5 : W.cell? ⟨gq, 5, none⟩ = some (.int .i64 0) := (blk_cell HQ.out.bq 5).trans rfl
 have hqf5 := blk_frozen HQ.out.bq 5
 have hq6 : W.cell? ⟨gq, 6, none⟩ = some (.string (⟨#[]⟩ : ByteArray)) := (blk_cell HQ.out.bq 6).trans rfl
 have hqf6 := blk_frozen HQ.out.bq 6
 have hq7 : W.cell? ⟨gq, 7, none⟩ = some (.slice none 0 0) := (blk_cell HQ.out.bq 7).trans rfl
 have hqf7 := blk_frozen HQ.out.bq 7
 have hq8 : W.cell? ⟨gq, 8, none⟩ = some (.slice none 0 0) := (blk_cell HQ.out.bq 8).trans rfl
 have hqf8 := blk_frozen HQ.out.bq 8
 obtain ⟨gn, cn, eN, gnb, gnl, cellsN, hcN⟩ := Kd.R_form HQ.out.ns (by omega)
 obtain ⟨gt, ct, eT, gtb, gtl, cellsT, hcT⟩ := Kd.R_form HQ.out.ts (by omega)
 have eN' : AN = some ⟨gn, 0, none⟩ ∧ cN = cn := by simpa using eN
 have eT' : AT = some ⟨gt, 0, none⟩ ∧ cT = ct := by simpa using eT
 obtain ⟨rfl, rfl⟩ := eN'
 obtain ⟨rfl, rfl⟩ := eT'
 obtain ⟨_, hcapN, hCN⟩ := Kd.R_reads' HQ.out.ns
 obtain ⟨_, hcapT, hCT⟩ := Kd.R_reads' HQ.out.ts
 clear eN eT hcN hcT gnb gnl gtb gtl
 obtain ⟨_, eA, hn0⟩ := Kd.at_int hCN 0 (by decide) (by omega)
 cases eA
 replace hn0 : W.cell? ⟨gn, 0, none⟩ = some (.int .i64 (rd ns 0)) := by simpa [add_plain] using hn0
 obtain ⟨_, eA, hn1⟩ := Kd.at_int hCN 1 (by decide) (by omega)
 cases eA
 replace hn1 : W.cell? ⟨gn, 1, none⟩ = some (.int .i64 (rd ns 1)) := by simpa [add_plain] using hn1
 obtain ⟨_, eA, hn2⟩ := Kd.at_int hCN 2 (by decide) (by omega)
 cases eA
 replace hn2 : W.cell? ⟨gn, 2, none⟩ = some (.int .i64 (rd ns 2)) := by simpa [add_plain] using hn2
 obtain ⟨_, eA, hn3⟩ := Kd.at_int hCN 3 (by decide) (by omega)
 cases eA
 replace hn3 : W.cell? ⟨gn, 3, none⟩ = some (.int .i64 (rd ns 3)) := by simpa [add_plain] using hn3
 obtain ⟨_, eA, hn4⟩ := Kd.at_int hCN 4 (by decide) (by omega)
 cases eA
 replace hn4 : W.cell? ⟨gn, 4, none⟩ = some (.int .i64 (rd ns 4)) := by simpa [add_plain] using hn4
 obtain ⟨_, eA, hn5⟩ := Kd.at_int hCN 5 (by decide) (by omega)
 cases eA
 replace hn5 : W.cell? ⟨gn, 5, none⟩ = some (.int .i64 (rd ns 5)) := by simpa [add_plain] using hn5
 obtain ⟨_, eA, hn6⟩ := Kd.at_int hCN 6 (by decide) (by omega)
 cases eA
 replace hn6 : W.cell? ⟨gn, 6, none⟩ = some (.int .i64 (rd ns 6)) := by simpa [add_plain] using hn6
 obtain ⟨_, eA, ht0⟩ := Kd.at_string hCT 0 (by decide) (by omega)
 cases eA
 replace ht0 : W.cell? ⟨gt, 0, none⟩ = some (.string (rdOf ByteArray.empty ts 0)) := by simpa [add_plain] using ht0
 go_wp2
 obtain ⟨i3, hi3, hz3⟩ := Option.map_eq_some_iff.1 info3
 have hs3 : i3.size = 1 := by simpa using congrArg (fun x => x.2.1) hz3
 have hcutN := fun W => cut_from (P := Try.prog) 45 3 .i64 Try.underlying45 hi3 1 hs3 (some ⟨gn, 0, none⟩) ns.length cN 7 (by decide) (by omega) W
 have hsameN : (if cN = (7 : Int).toNat then (some ⟨gn, 0, none⟩ : Option Addr) else (some ⟨gn, 0, none⟩ : Option Addr).map (·.add ((7 : Int).toNat * 1))) = (if cN = 7 then (some ⟨gn, 0, none⟩ : Option Addr) else (some ⟨gn, 0, none⟩ : Option Addr).map (·.add (7 * (Kd.int .i64).sz))) := rfl
 rw [hsameN] at hcutN
 obtain ⟨AF, hAF⟩ : ∃ A, A = (if cN = 7 then (some ⟨gn, 0, none⟩ : Option Addr) else (some ⟨gn, 0, none⟩ : Option Addr).map (·.add (7 * (Kd.int .i64).sz))) := ⟨_, rfl⟩
 rw [← hAF] at hcutN
 have HMF : Aside0 (∀ W', (Kd.int .i64).C W' (some ⟨gn, 0, none⟩) ns.length ns → (Kd.int .i64).C W' AF (ns.drop 7).length (ns.drop 7)) := ⟨fun W' h => by rw [hAF]; exact Kd.C_drop (m := 7) h (by omega) hcapN⟩
 have q5 : (7 : Int) ≤ (ns.length : Int) := by omega
 have j6 : (6 : Int) < (ns.length : Int) := by omega
 have jj6 : 6 < ns.length := by omega
 have jn : ¬ (ns = []) := fun h => by rw [h] at hl7; exact absurd hl7 (by decide)
 have HCAPN := Aside0.mk hcapN
 have HCAP := Aside0.mk hcapT
 clear hsameN hAF hs3 hz3 hi3 hcapN hcapT hCN hCT
 go_region_held3 (fun W => W.cell? ⟨gp, 0, none⟩ = some (.slice (some ⟨gn, 0, none⟩) ns.length cN) ∧ W.cell? ⟨gn, 6, none⟩ = some (.int .i64 (rd ns 6))) (go_keep) (fail)
 have HQ1 := Aside0.mk HQ.out.drew
 generalize eW : W.drew = W1 at HQ1 ⊢
 clear eW HQ hP0 hP1 hn0 hn1 hn2 hn3 hn4 hn5 hn6 ht0 hq0 hqf0 hq1 hqf1 hq2 hqf2 hq3 hqf3 hq4 hqf4 hq5 hqf5 hq6 hqf6 hq7 hqf7 hq8 hqf8
 have hq0 : W1.cell? ⟨gq, 0, none⟩ = some (.int .i64 0) := (blk_cell HQ1.out.bq 0).trans rfl
 have hqf0 := blk_frozen HQ1.out.bq 0
 have hq1 : W1.cell? ⟨gq, 1, none⟩ = some (.int .i64 0) := (blk_cell HQ1.out.bq 1).trans rfl
 have hqf1 := blk_frozen HQ1.out.bq 1
 have hq2 : W1.cell? ⟨gq, 2, none⟩ = some (.int .i64 0) := (blk_cell HQ1.out.bq 2).trans rfl
 have hqf2 := blk_frozen HQ1.out.bq 2
 have hq3 : W1.cell? ⟨gq, 3, none⟩ = some (.int .i64 0) := (blk_cell HQ1.out.bq 3).trans rfl
 have hqf3 := blk_frozen HQ1.out.bq 3
 have hq4 : W1.cell? ⟨gq, 4, none⟩ = some (.int .i64 0) := (blk_cell HQ1.out.bq 4).trans rfl
 have hqf4 := blk_frozen HQ1.out.bq 4
 have hq5 : W1.cell? ⟨gq, 5, none⟩ = some (.int .i64 0) := (blk_cell HQ1.out.bq 5).trans rfl
 have hqf5 := blk_frozen HQ1.out.bq 5
 have hq6 : W1.cell? ⟨gq, 6, none⟩ = some (.string (⟨#[]⟩ : ByteArray)) := (blk_cell HQ1.out.bq 6).trans rfl
 have hqf6 := blk_frozen HQ1.out.bq 6
 have hq7 : W1.cell? ⟨gq, 7, none⟩ = some (.slice none 0 0) := (blk_cell HQ1.out.bq 7).trans rfl
 have hqf7 := blk_frozen HQ1.out.bq 7
 have hq8 : W1.cell? ⟨gq, 8, none⟩ = some (.slice none 0 0) := (blk_cell HQ1.out.bq 8).trans rfl
 have hqf8 := blk_frozen HQ1.out.bq 8
 have hP0 : W1.cell? ⟨gp, 0, none⟩ = some (.slice (some ⟨gn, 0, none⟩) ns.length cN) := (blk_cell HQ1.out.bp 0).trans rfl
 have hP1 : W1.cell? ⟨gp, 1, none⟩ = some (.slice (some ⟨gt, 0, none⟩) ts.length cT) := (blk_cell HQ1.out.bp 1).trans rfl
 go_wp2
 refine bodyPost_ret (results_ct rfl _ _ gq 25 #[.int .i64 0, .int .i64 0, .int .i64 0, .int .i64 0, .int .i64 0, .int .i64 0, .string (⟨#[]⟩ : ByteArray), .slice none 0 0, .slice none 0 0] (0, 0) _ rfl (set9 HQ1.out.bq) Try.underlying25 rfl (by kernel_rfl)) rfl ?_
 exact ⟨rfl, below9 HQ1.out.bel HQ1.out.geq⟩
set_option maxHeartbeats 4000000 in
set_option maxRecDepth 100000 in
theorem ld_m3 (s : ByteArray) (ns : List Int) (ts : List ByteArray) (p : Int) (w : World) (hf : pack_Decode.f s = some (ns, ts, p, 0)) (hn : 7 ≤ ns.length) (ht : 1 ≤ ts.length) (hb : ts.length ≤ 1024) (hbn : ns.length ≤ 1024) (hm : 0 ≤ rd ns 6) (hm2 : rd ns 6 < (ts.length : Int)) (hx : (ts.length : Int) ≠ 1 + rd ns 6 + 2 * ((ns.length - 7 : Nat) : Int)) :
  Calls Try.prog 24 #[.string s] w (NoLetE w) := by
 have e1 : decide ((ns.length : Int) < 7) = false := decide_eq_false (by omega)
 have e2 : decide (ns.length < 7) = false := decide_eq_false (by omega)
 have e3 : decide ((ts.length : Int) < 1) = false := decide_eq_false (by omega)
 have e4 : decide (ts.length < 1) = false := decide_eq_false (by omega)
 have e5 : ¬ (ts.length = 0) := by omega
 have e6 : ¬ (ts = []) := fun h => by rw [h] at ht; exact absurd ht (by decide)
 have hl7 := hn
 have hl1 := ht
 have m1 : decide (rd ns 6 < 0) = false := decide_eq_false (by omega)
 have m2 : decide ((ts.length : Int) ≤ rd ns 6) = false := decide_eq_false (by omega)
 have mb : rd ns 6 ≤ 1024 := by omega
 have m3 : ((ts.length : Int) == 1 + rd ns 6 + 2 * ((ns.length - 7 : Nat) : Int)) = false := beq_eq_false_iff_ne.2 hx
 have m4 : ((ts.length : Int) != 1 + rd ns 6 + 2 * ((ns.length - 7 : Nat) : Int)) = true := bne_iff_ne.2 hx
 clear hn ht hx
 have hu25 := Try.underlying25
 have hu47 := Try.underlying47
 have HF := Aside0.mk hf
 clear hf
 go_enter Try.func24, Try.ntmps24
 go_upto_region 2 with (first | ((with_reducible refine gate_dst (N := 2) rfl ?_); refine box_event ?hg (N := 2) ?hd (cs := #[.int .i64 0, .int .i64 0, .int .i64 0, .int .i64 0, .int .i64 0, .int .i64 0, .string (⟨#[]⟩ : ByteArray), .slice none 0 0, .slice none 0 0]) (t := 25) ?hr ?_; (case hd => rfl); (case hg => rfl); (case hr => first | (go_simp; done) | (go_simp; rfl)); intro gq hgg w1 hbox hb; have GQ := Aside0.mk (Nat.le_of_eq hgg.symm); have BQ := Aside0.mk hbox; have BA := Aside0.mk hb; clear hgg hbox hb) | (go_at_call 36; refine (pack_Decode.calls s _ _ _ _ _ HF.out).mono ?_; rintro x w2 ⟨v0, v1, rfl, hN, hT, hb⟩; obtain ⟨AN, cN, eN⟩ := Kd.R_slice hN; subst eN; obtain ⟨AT, cT, eT⟩ := Kd.R_slice hT; subst eT; have GN := Aside0.mk (Kd.R_lower hN (below_size BA.out)); have GT := Aside0.mk (Kd.R_lower hT (below_size BA.out)); have BC := Aside0.mk (below_step BA.out hb); have BQ2 := Aside0.mk (blk_below BQ.out hb); clear hN hT hb) | ((with_reducible refine gate_dst (N := 4) rfl ?_); refine box_event ?hg (N := 4) ?hd (cs := #[.slice none 0 0, .slice none 0 0]) (t := 47) ?hr ?_; (case hd => rfl); (case hg => rfl); (case hr => first | (go_simp; done) | (go_simp; rfl)); intro gp hgp w3 hbox hb; have HQ := Aside0.mk (qr_of GQ.out BQ2.out hbox hgp GN.out GT.out BC.out hb); have hz0 : w3.cell? ⟨gp, 0, none⟩ = some (.slice none 0 0) := (blk_cell hbox 0).trans rfl; have hz1 : w3.cell? ⟨gp, 1, none⟩ = some (.slice none 0 0) := (blk_cell hbox 1).trans rfl; have hzf0 := blk_frozen hbox 0; have hzf1 := blk_frozen hbox 1; clear hgp hbox hb))
 generalize eW : (w3.setCell ⟨gp, 0, none⟩ (.slice AN ns.length cN)).setCell ⟨gp, 1, none⟩ (.slice AT ts.length cT) = W at HQ ⊢
 clear eW hz0 hz1 hzf0 hzf1 GN GT BC BQ2 BQ BA GQ
 have hP0 : W.cell? ⟨gp, 0, none⟩ = some (.slice AN ns.length cN) := (blk_cell HQ.out.bp 0).trans rfl
 have hP1 : W.cell? ⟨gp, 1, none⟩ = some (.slice AT ts.length cT) := (blk_cell HQ.out.bp 1).trans rfl
 have hq0 : W.cell? ⟨gq, 0, none⟩ = some (.int .i64 0) := (blk_cell HQ.out.bq 0).trans rfl
 have hqf0 := blk_frozen HQ.out.bq 0
 have hq1 : W.cell? ⟨gq, 1, none⟩ = some (.int .i64 0) := (blk_cell HQ.out.bq 1).trans rfl
 have hqf1 := blk_frozen HQ.out.bq 1
 have hq2 : W.cell? ⟨gq, 2, none⟩ = some (.int .i64 0) := (blk_cell HQ.out.bq 2).trans rfl
 have hqf2 := blk_frozen HQ.out.bq 2
 have hq3 : W.cell? ⟨gq, 3, none⟩ = some (.int .i64 0) := (blk_cell HQ.out.bq 3).trans rfl
 have hqf3 := blk_frozen HQ.out.bq 3
 have hq4 : W.cell? ⟨gq, 4, none⟩ = some (.int .i64 0) := (blk_cell HQ.out.bq 4).trans rfl
 have hqf4 := blk_frozen HQ.out.bq 4
 have hq5 : W.cell? ⟨gq, 5, none⟩ = some (.int .i64 0) := (blk_cell HQ.out.bq 5).trans rfl
 have hqf5 := blk_frozen HQ.out.bq 5
 have hq6 : W.cell? ⟨gq, 6, none⟩ = some (.string (⟨#[]⟩ : ByteArray)) := (blk_cell HQ.out.bq 6).trans rfl
 have hqf6 := blk_frozen HQ.out.bq 6
 have hq7 : W.cell? ⟨gq, 7, none⟩ = some (.slice none 0 0) := (blk_cell HQ.out.bq 7).trans rfl
 have hqf7 := blk_frozen HQ.out.bq 7
 have hq8 : W.cell? ⟨gq, 8, none⟩ = some (.slice none 0 0) := (blk_cell HQ.out.bq 8).trans rfl
 have hqf8 := blk_frozen HQ.out.bq 8
 obtain ⟨gn, cn, eN, gnb, gnl, cellsN, hcN⟩ := Kd.R_form HQ.out.ns (by omega)
 obtain ⟨gt, ct, eT, gtb, gtl, cellsT, hcT⟩ := Kd.R_form HQ.out.ts (by omega)
 have eN' : AN = some ⟨gn, 0, none⟩ ∧ cN = cn := by simpa using eN
 have eT' : AT = some ⟨gt, 0, none⟩ ∧ cT = ct := by simpa using eT
 obtain ⟨rfl, rfl⟩ := eN'
 obtain ⟨rfl, rfl⟩ := eT'
 obtain ⟨_, hcapN, hCN⟩ := Kd.R_reads' HQ.out.ns
 obtain ⟨_, hcapT, hCT⟩ := Kd.R_reads' HQ.out.ts
 clear eN eT hcN hcT gnb gnl gtb gtl
 obtain ⟨_, eA, hn0⟩ := Kd.at_int hCN 0 (by decide) (by omega)
 cases eA
 replace hn0 : W.cell? ⟨gn, 0, none⟩ = some (.int .i64 (rd ns 0)) := by simpa [add_plain] using hn0
 obtain ⟨_, eA, hn1⟩ := Kd.at_int hCN 1 (by decide) (by omega)
 cases eA
 replace hn1 : W.cell? ⟨gn, 1, none⟩ = some (.int .i64 (rd ns 1)) := by simpa [add_plain] using hn1
 obtain ⟨_, eA, hn2⟩ := Kd.at_int hCN 2 (by decide) (by omega)
 cases eA
 replace hn2 : W.cell? ⟨gn, 2, none⟩ = some (.int .i64 (rd ns 2)) := by simpa [add_plain] using hn2
 obtain ⟨_, eA, hn3⟩ := Kd.at_int hCN 3 (by decide) (by omega)
 cases eA
 replace hn3 : W.cell? ⟨gn, 3, none⟩ = some (.int .i64 (rd ns 3)) := by simpa [add_plain] using hn3
 obtain ⟨_, eA, hn4⟩ := Kd.at_int hCN 4 (by decide) (by omega)
 cases eA
 replace hn4 : W.cell? ⟨gn, 4, none⟩ = some (.int .i64 (rd ns 4)) := by simpa [add_plain] using hn4
 obtain ⟨_, eA, hn5⟩ := Kd.at_int hCN 5 (by decide) (by omega)
 cases eA
 replace hn5 : W.cell? ⟨gn, 5, none⟩ = some (.int .i64 (rd ns 5)) := by simpa [add_plain] using hn5
 obtain ⟨_, eA, hn6⟩ := Kd.at_int hCN 6 (by decide) (by omega)
 cases eA
 replace hn6 : W.cell? ⟨gn, 6, none⟩ = some (.int .i64 (rd ns 6)) := by simpa [add_plain] using hn6
 obtain ⟨_, eA, ht0⟩ := Kd.at_string hCT 0 (by decide) (by omega)
 cases eA
 replace ht0 : W.cell? ⟨gt, 0, none⟩ = some (.string (rdOf ByteArray.empty ts 0)) := by simpa [add_plain] using ht0
 go_wp2
 obtain ⟨i3, hi3, hz3⟩ := Option.map_eq_some_iff.1 info3
 have hs3 : i3.size = 1 := by simpa using congrArg (fun x => x.2.1) hz3
 have hcutN := fun W => cut_from (P := Try.prog) 45 3 .i64 Try.underlying45 hi3 1 hs3 (some ⟨gn, 0, none⟩) ns.length cN 7 (by decide) (by omega) W
 have hsameN : (if cN = (7 : Int).toNat then (some ⟨gn, 0, none⟩ : Option Addr) else (some ⟨gn, 0, none⟩ : Option Addr).map (·.add ((7 : Int).toNat * 1))) = (if cN = 7 then (some ⟨gn, 0, none⟩ : Option Addr) else (some ⟨gn, 0, none⟩ : Option Addr).map (·.add (7 * (Kd.int .i64).sz))) := rfl
 rw [hsameN] at hcutN
 obtain ⟨AF, hAF⟩ : ∃ A, A = (if cN = 7 then (some ⟨gn, 0, none⟩ : Option Addr) else (some ⟨gn, 0, none⟩ : Option Addr).map (·.add (7 * (Kd.int .i64).sz))) := ⟨_, rfl⟩
 rw [← hAF] at hcutN
 have HMF : Aside0 (∀ W', (Kd.int .i64).C W' (some ⟨gn, 0, none⟩) ns.length ns → (Kd.int .i64).C W' AF (ns.drop 7).length (ns.drop 7)) := ⟨fun W' h => by rw [hAF]; exact Kd.C_drop (m := 7) h (by omega) hcapN⟩
 have q5 : (7 : Int) ≤ (ns.length : Int) := by omega
 have j6 : (6 : Int) < (ns.length : Int) := by omega
 have jj6 : 6 < ns.length := by omega
 have jn : ¬ (ns = []) := fun h => by rw [h] at hl7; exact absurd hl7 (by decide)
 have HCAPN := Aside0.mk hcapN
 have HCAP := Aside0.mk hcapT
 clear hsameN hAF hs3 hz3 hi3 hcapN hcapT hCN hCT
 go_region_held3 (fun W => W.cell? ⟨gp, 0, none⟩ = some (.slice (some ⟨gn, 0, none⟩) ns.length cN) ∧ W.cell? ⟨gn, 6, none⟩ = some (.int .i64 (rd ns 6))) (go_keep) (fail)
 have HQ1 := Aside0.mk HQ.out.drew
 generalize eW : W.drew = W1 at HQ1 ⊢
 clear eW HQ hP0 hP1 hn0 hn1 hn2 hn3 hn4 hn5 hn6 ht0 hq0 hqf0 hq1 hqf1 hq2 hqf2 hq3 hqf3 hq4 hqf4 hq5 hqf5 hq6 hqf6 hq7 hqf7 hq8 hqf8
 have hq0 : W1.cell? ⟨gq, 0, none⟩ = some (.int .i64 0) := (blk_cell HQ1.out.bq 0).trans rfl
 have hqf0 := blk_frozen HQ1.out.bq 0
 have hq1 : W1.cell? ⟨gq, 1, none⟩ = some (.int .i64 0) := (blk_cell HQ1.out.bq 1).trans rfl
 have hqf1 := blk_frozen HQ1.out.bq 1
 have hq2 : W1.cell? ⟨gq, 2, none⟩ = some (.int .i64 0) := (blk_cell HQ1.out.bq 2).trans rfl
 have hqf2 := blk_frozen HQ1.out.bq 2
 have hq3 : W1.cell? ⟨gq, 3, none⟩ = some (.int .i64 0) := (blk_cell HQ1.out.bq 3).trans rfl
 have hqf3 := blk_frozen HQ1.out.bq 3
 have hq4 : W1.cell? ⟨gq, 4, none⟩ = some (.int .i64 0) := (blk_cell HQ1.out.bq 4).trans rfl
 have hqf4 := blk_frozen HQ1.out.bq 4
 have hq5 : W1.cell? ⟨gq, 5, none⟩ = some (.int .i64 0) := (blk_cell HQ1.out.bq 5).trans rfl
 have hqf5 := blk_frozen HQ1.out.bq 5
 have hq6 : W1.cell? ⟨gq, 6, none⟩ = some (.string (⟨#[]⟩ : ByteArray)) := (blk_cell HQ1.out.bq 6).trans rfl
 have hqf6 := blk_frozen HQ1.out.bq 6
 have hq7 : W1.cell? ⟨gq, 7, none⟩ = some (.slice none 0 0) := (blk_cell HQ1.out.bq 7).trans rfl
 have hqf7 := blk_frozen HQ1.out.bq 7
 have hq8 : W1.cell? ⟨gq, 8, none⟩ = some (.slice none 0 0) := (blk_cell HQ1.out.bq 8).trans rfl
 have hqf8 := blk_frozen HQ1.out.bq 8
 have hP0 : W1.cell? ⟨gp, 0, none⟩ = some (.slice (some ⟨gn, 0, none⟩) ns.length cN) := (blk_cell HQ1.out.bp 0).trans rfl
 have hP1 : W1.cell? ⟨gp, 1, none⟩ = some (.slice (some ⟨gt, 0, none⟩) ts.length cT) := (blk_cell HQ1.out.bp 1).trans rfl
 go_wp2
 refine bodyPost_ret (results_ct rfl _ _ gq 25 #[.int .i64 0, .int .i64 0, .int .i64 0, .int .i64 0, .int .i64 0, .int .i64 0, .string (⟨#[]⟩ : ByteArray), .slice none 0 0, .slice none 0 0] (0, 0) _ rfl (set9 HQ1.out.bq) Try.underlying25 rfl (by kernel_rfl)) rfl ?_
 exact ⟨rfl, below9 HQ1.out.bel HQ1.out.geq⟩
/-- What comes back, with its memory. -/
def RLetE (w : World) (r : RLet) (e : Ending) (w' : World) : Prop := ∃ v7 v8 : Value, e = .returned (.tuple #[.agg #[.int .i64 r.1, .int .i64 r.2.1, .int .i64 r.2.2.1, .int .i64 r.2.2.2.1, .int .i64 r.2.2.2.2.1, .int .i64 r.2.2.2.2.2.1, .string r.2.2.2.2.2.2.1, v7, v8], .int .i64 r.2.2.2.2.2.2.2.2.2]) ∧ Kd.R Kd.string 9 w' w.heap.size (fun _ => True) v7 r.2.2.2.2.2.2.2.1 ∧ Kd.R k49 49 w' w.heap.size (fun _ => True) v8 r.2.2.2.2.2.2.2.2.1 ∧ Below w.heap.size w w'
set_option maxHeartbeats 4000000 in
set_option maxRecDepth 100000 in
theorem ld_go (s : ByteArray) (ns : List Int) (ts : List ByteArray) (p : Int) (w : World) (hf : pack_Decode.f s = some (ns, ts, p, 0)) (hn : 7 ≤ ns.length) (ht : 1 ≤ ts.length) (hb : ts.length ≤ 1024) (hbn : ns.length ≤ 1024) (hm : 0 ≤ rd ns 6) (hm2 : rd ns 6 < (ts.length : Int)) (hx : (ts.length : Int) = 1 + rd ns 6 + 2 * ((ns.length - 7 : Nat) : Int)) (k : Nat) (bb : ByteArray) (ee : Int) (hen : letter_Encode.f k (rd ns 0) (rd ns 1) (rd ns 2) (rd ns 3) (rd ns 4) (rd ns 5) (rdOf ByteArray.empty ts 0) ((ts.take (1 + rd ns 6).toNat).drop 1) (wsOf (ns.drop 7) (ts.drop (1 + rd ns 6).toNat) (ns.length - 7)) = some (bb, ee)) (r : RLet) (HRR : (if ee = 0 ∧ bb = s then (((rd ns 0), (rd ns 1), (rd ns 2), (rd ns 3), (rd ns 4), (rd ns 5), (rdOf ByteArray.empty ts 0), ((ts.take (1 + rd ns 6).toNat).drop 1), wsOf (ns.drop 7) (ts.drop (1 + rd ns 6).toNat) (ns.length - 7), 0) : RLet) else noLet) = r) :
  Calls Try.prog 24 #[.string s] w (RLetE w r) := by
 have e1 : decide ((ns.length : Int) < 7) = false := decide_eq_false (by omega)
 have e2 : decide (ns.length < 7) = false := decide_eq_false (by omega)
 have e3 : decide ((ts.length : Int) < 1) = false := decide_eq_false (by omega)
 have e4 : decide (ts.length < 1) = false := decide_eq_false (by omega)
 have e5 : ¬ (ts.length = 0) := by omega
 have e6 : ¬ (ts = []) := fun h => by rw [h] at ht; exact absurd ht (by decide)
 have hl7 := hn
 have hl1 := ht
 have m1 : decide (rd ns 6 < 0) = false := decide_eq_false (by omega)
 have m2 : decide ((ts.length : Int) ≤ rd ns 6) = false := decide_eq_false (by omega)
 have mb : rd ns 6 ≤ 1024 := by omega
 have HX := Aside0.mk hx
 have m3 : ((ts.length : Int) == 1 + rd ns 6 + 2 * ((ns.length - 7 : Nat) : Int)) = true := beq_iff_eq.2 hx
 have m4 : ((ts.length : Int) != 1 + rd ns 6 + 2 * ((ns.length - 7 : Nat) : Int)) = false := bne_eq_false_iff_eq.2 hx
 clear hn ht hx
 have HEN := Aside0.mk hen
 clear hen
 have hu25 := Try.underlying25
 have hu47 := Try.underlying47
 have HF := Aside0.mk hf
 clear hf
 go_enter Try.func24, Try.ntmps24
 go_upto_region 2 with (first | ((with_reducible refine gate_dst (N := 2) rfl ?_); refine box_event ?hg (N := 2) ?hd (cs := #[.int .i64 0, .int .i64 0, .int .i64 0, .int .i64 0, .int .i64 0, .int .i64 0, .string (⟨#[]⟩ : ByteArray), .slice none 0 0, .slice none 0 0]) (t := 25) ?hr ?_; (case hd => rfl); (case hg => rfl); (case hr => first | (go_simp; done) | (go_simp; rfl)); intro gq hgg w1 hbox hb; have GQ := Aside0.mk (Nat.le_of_eq hgg.symm); have BQ := Aside0.mk hbox; have BA := Aside0.mk hb; clear hgg hbox hb) | (go_at_call 36; refine (pack_Decode.calls s _ _ _ _ _ HF.out).mono ?_; rintro x w2 ⟨v0, v1, rfl, hN, hT, hb⟩; obtain ⟨AN, cN, eN⟩ := Kd.R_slice hN; subst eN; obtain ⟨AT, cT, eT⟩ := Kd.R_slice hT; subst eT; have GN := Aside0.mk (Kd.R_lower hN (below_size BA.out)); have GT := Aside0.mk (Kd.R_lower hT (below_size BA.out)); have BC := Aside0.mk (below_step BA.out hb); have BQ2 := Aside0.mk (blk_below BQ.out hb); clear hN hT hb) | ((with_reducible refine gate_dst (N := 4) rfl ?_); refine box_event ?hg (N := 4) ?hd (cs := #[.slice none 0 0, .slice none 0 0]) (t := 47) ?hr ?_; (case hd => rfl); (case hg => rfl); (case hr => first | (go_simp; done) | (go_simp; rfl)); intro gp hgp w3 hbox hb; have HQ := Aside0.mk (qr_of GQ.out BQ2.out hbox hgp GN.out GT.out BC.out hb); have hz0 : w3.cell? ⟨gp, 0, none⟩ = some (.slice none 0 0) := (blk_cell hbox 0).trans rfl; have hz1 : w3.cell? ⟨gp, 1, none⟩ = some (.slice none 0 0) := (blk_cell hbox 1).trans rfl; have hzf0 := blk_frozen hbox 0; have hzf1 := blk_frozen hbox 1; clear hgp hbox hb))
 generalize eW : (w3.setCell ⟨gp, 0, none⟩ (.slice AN ns.length cN)).setCell ⟨gp, 1, none⟩ (.slice AT ts.length cT) = W at HQ ⊢
 clear eW hz0 hz1 hzf0 hzf1 GN GT BC BQ2 BQ BA GQ
 have hP0 : W.cell? ⟨gp, 0, none⟩ = some (.slice AN ns.length cN) := (blk_cell HQ.out.bp 0).trans rfl
 have hP1 : W.cell? ⟨gp, 1, none⟩ = some (.slice AT ts.length cT) := (blk_cell HQ.out.bp 1).trans rfl
 have hq0 : W.cell? ⟨gq, 0, none⟩ = some (.int .i64 0) := (blk_cell HQ.out.bq 0).trans rfl
 have hqf0 := blk_frozen HQ.out.bq 0
 have hq1 : W.cell? ⟨gq, 1, none⟩ = some (.int .i64 0) := (blk_cell HQ.out.bq 1).trans rfl
 have hqf1 := blk_frozen HQ.out.bq 1
 have hq2 : W.cell? ⟨gq, 2, none⟩ = some (.int .i64 0) := (blk_cell HQ.out.bq 2).trans rfl
 have hqf2 := blk_frozen HQ.out.bq 2
 have hq3 : W.cell? ⟨gq, 3, none⟩ = some (.int .i64 0) := (blk_cell HQ.out.bq 3).trans rfl
 have hqf3 := blk_frozen HQ.out.bq 3
 have hq4 : W.cell? ⟨gq, 4, none⟩ = some (.int .i64 0) := (blk_cell HQ.out.bq 4).trans rfl
 have hqf4 := blk_frozen HQ.out.bq 4
 have hq5 : W.cell? ⟨gq, 5, none⟩ = some (.int .i64 0) := (blk_cell HQ.out.bq 5).trans rfl
 have hqf5 := blk_frozen HQ.out.bq 5
 have hq6 : W.cell? ⟨gq, 6, none⟩ = some (.string (⟨#[]⟩ : ByteArray)) := (blk_cell HQ.out.bq 6).trans rfl
 have hqf6 := blk_frozen HQ.out.bq 6
 have hq7 : W.cell? ⟨gq, 7, none⟩ = some (.slice none 0 0) := (blk_cell HQ.out.bq 7).trans rfl
 have hqf7 := blk_frozen HQ.out.bq 7
 have hq8 : W.cell? ⟨gq, 8, none⟩ = some (.slice none 0 0) := (blk_cell HQ.out.bq 8).trans rfl
 have hqf8 := blk_frozen HQ.out.bq 8
 obtain ⟨gn, cn, eN, gnb, gnl, cellsN, hcN⟩ := Kd.R_form HQ.out.ns (by omega)
 obtain ⟨gt, ct, eT, gtb, gtl, cellsT, hcT⟩ := Kd.R_form HQ.out.ts (by omega)
 have eN' : AN = some ⟨gn, 0, none⟩ ∧ cN = cn := by simpa using eN
 have eT' : AT = some ⟨gt, 0, none⟩ ∧ cT = ct := by simpa using eT
 obtain ⟨rfl, rfl⟩ := eN'
 obtain ⟨rfl, rfl⟩ := eT'
 obtain ⟨_, hcapN, hCN⟩ := Kd.R_reads' HQ.out.ns
 obtain ⟨_, hcapT, hCT⟩ := Kd.R_reads' HQ.out.ts
 clear eN eT hcN hcT gnb gnl gtb gtl
 obtain ⟨_, eA, hn0⟩ := Kd.at_int hCN 0 (by decide) (by omega)
 cases eA
 replace hn0 : W.cell? ⟨gn, 0, none⟩ = some (.int .i64 (rd ns 0)) := by simpa [add_plain] using hn0
 obtain ⟨_, eA, hn1⟩ := Kd.at_int hCN 1 (by decide) (by omega)
 cases eA
 replace hn1 : W.cell? ⟨gn, 1, none⟩ = some (.int .i64 (rd ns 1)) := by simpa [add_plain] using hn1
 obtain ⟨_, eA, hn2⟩ := Kd.at_int hCN 2 (by decide) (by omega)
 cases eA
 replace hn2 : W.cell? ⟨gn, 2, none⟩ = some (.int .i64 (rd ns 2)) := by simpa [add_plain] using hn2
 obtain ⟨_, eA, hn3⟩ := Kd.at_int hCN 3 (by decide) (by omega)
 cases eA
 replace hn3 : W.cell? ⟨gn, 3, none⟩ = some (.int .i64 (rd ns 3)) := by simpa [add_plain] using hn3
 obtain ⟨_, eA, hn4⟩ := Kd.at_int hCN 4 (by decide) (by omega)
 cases eA
 replace hn4 : W.cell? ⟨gn, 4, none⟩ = some (.int .i64 (rd ns 4)) := by simpa [add_plain] using hn4
 obtain ⟨_, eA, hn5⟩ := Kd.at_int hCN 5 (by decide) (by omega)
 cases eA
 replace hn5 : W.cell? ⟨gn, 5, none⟩ = some (.int .i64 (rd ns 5)) := by simpa [add_plain] using hn5
 obtain ⟨_, eA, hn6⟩ := Kd.at_int hCN 6 (by decide) (by omega)
 cases eA
 replace hn6 : W.cell? ⟨gn, 6, none⟩ = some (.int .i64 (rd ns 6)) := by simpa [add_plain] using hn6
 obtain ⟨_, eA, ht0⟩ := Kd.at_string hCT 0 (by decide) (by omega)
 cases eA
 replace ht0 : W.cell? ⟨gt, 0, none⟩ = some (.string (rdOf ByteArray.empty ts 0)) := by simpa [add_plain] using ht0
 go_wp2
 obtain ⟨i3, hi3, hz3⟩ := Option.map_eq_some_iff.1 info3
 have hs3 : i3.size = 1 := by simpa using congrArg (fun x => x.2.1) hz3
 have hcutN := fun W => cut_from (P := Try.prog) 45 3 .i64 Try.underlying45 hi3 1 hs3 (some ⟨gn, 0, none⟩) ns.length cN 7 (by decide) (by omega) W
 have hsameN : (if cN = (7 : Int).toNat then (some ⟨gn, 0, none⟩ : Option Addr) else (some ⟨gn, 0, none⟩ : Option Addr).map (·.add ((7 : Int).toNat * 1))) = (if cN = 7 then (some ⟨gn, 0, none⟩ : Option Addr) else (some ⟨gn, 0, none⟩ : Option Addr).map (·.add (7 * (Kd.int .i64).sz))) := rfl
 rw [hsameN] at hcutN
 obtain ⟨AF, hAF⟩ : ∃ A, A = (if cN = 7 then (some ⟨gn, 0, none⟩ : Option Addr) else (some ⟨gn, 0, none⟩ : Option Addr).map (·.add (7 * (Kd.int .i64).sz))) := ⟨_, rfl⟩
 rw [← hAF] at hcutN
 have HMF : Aside0 (∀ W', (Kd.int .i64).C W' (some ⟨gn, 0, none⟩) ns.length ns → (Kd.int .i64).C W' AF (ns.drop 7).length (ns.drop 7)) := ⟨fun W' h => by rw [hAF]; exact Kd.C_drop (m := 7) h (by omega) hcapN⟩
 have q5 : (7 : Int) ≤ (ns.length : Int) := by omega
 have j6 : (6 : Int) < (ns.length : Int) := by omega
 have jj6 : 6 < ns.length := by omega
 have jn : ¬ (ns = []) := fun h => by rw [h] at hl7; exact absurd hl7 (by decide)
 have HCAPN := Aside0.mk hcapN
 have HCAP := Aside0.mk hcapT
 clear hsameN hAF hs3 hz3 hi3 hcapN hcapT hCN hCT
 go_region_held3 (fun W => W.cell? ⟨gp, 0, none⟩ = some (.slice (some ⟨gn, 0, none⟩) ns.length cN) ∧ W.cell? ⟨gn, 6, none⟩ = some (.int .i64 (rd ns 6))) (go_keep) (fail)
 have HQ1 := Aside0.mk HQ.out.drew
 generalize eW : W.drew = W1 at HQ1 ⊢
 clear eW HQ hP0 hP1 hn0 hn1 hn2 hn3 hn4 hn5 hn6 ht0 hq0 hqf0 hq1 hqf1 hq2 hqf2 hq3 hqf3 hq4 hqf4 hq5 hqf5 hq6 hqf6 hq7 hqf7 hq8 hqf8
 have hq0 : W1.cell? ⟨gq, 0, none⟩ = some (.int .i64 0) := (blk_cell HQ1.out.bq 0).trans rfl
 have hqf0 := blk_frozen HQ1.out.bq 0
 have hq1 : W1.cell? ⟨gq, 1, none⟩ = some (.int .i64 0) := (blk_cell HQ1.out.bq 1).trans rfl
 have hqf1 := blk_frozen HQ1.out.bq 1
 have hq2 : W1.cell? ⟨gq, 2, none⟩ = some (.int .i64 0) := (blk_cell HQ1.out.bq 2).trans rfl
 have hqf2 := blk_frozen HQ1.out.bq 2
 have hq3 : W1.cell? ⟨gq, 3, none⟩ = some (.int .i64 0) := (blk_cell HQ1.out.bq 3).trans rfl
 have hqf3 := blk_frozen HQ1.out.bq 3
 have hq4 : W1.cell? ⟨gq, 4, none⟩ = some (.int .i64 0) := (blk_cell HQ1.out.bq 4).trans rfl
 have hqf4 := blk_frozen HQ1.out.bq 4
 have hq5 : W1.cell? ⟨gq, 5, none⟩ = some (.int .i64 0) := (blk_cell HQ1.out.bq 5).trans rfl
 have hqf5 := blk_frozen HQ1.out.bq 5
 have hq6 : W1.cell? ⟨gq, 6, none⟩ = some (.string (⟨#[]⟩ : ByteArray)) := (blk_cell HQ1.out.bq 6).trans rfl
 have hqf6 := blk_frozen HQ1.out.bq 6
 have hq7 : W1.cell? ⟨gq, 7, none⟩ = some (.slice none 0 0) := (blk_cell HQ1.out.bq 7).trans rfl
 have hqf7 := blk_frozen HQ1.out.bq 7
 have hq8 : W1.cell? ⟨gq, 8, none⟩ = some (.slice none 0 0) := (blk_cell HQ1.out.bq 8).trans rfl
 have hqf8 := blk_frozen HQ1.out.bq 8
 have hP0 : W1.cell? ⟨gp, 0, none⟩ = some (.slice (some ⟨gn, 0, none⟩) ns.length cN) := (blk_cell HQ1.out.bp 0).trans rfl
 have hP1 : W1.cell? ⟨gp, 1, none⟩ = some (.slice (some ⟨gt, 0, none⟩) ts.length cT) := (blk_cell HQ1.out.bp 1).trans rfl
 obtain ⟨i9, hi9, hz9⟩ := Option.map_eq_some_iff.1 info9
 have hs9 : i9.size = 1 := by simpa using congrArg (fun x => x.2.1) hz9
 have hcut := fun W => cut_mid (P := Try.prog) 22 9 .i64 .i64 Try.underlying22 hi9 1 hs9 (some ⟨gt, 0, none⟩) ts.length cT 1 (1 + rd ns 6) (by decide) (by omega) (by omega) HCAP.out W
 have hsame : (if cT = (1 : Int).toNat then (some ⟨gt, 0, none⟩ : Option Addr) else (some ⟨gt, 0, none⟩ : Option Addr).map (·.add ((1 : Int).toNat * 1))) = (if cT = 1 then (some ⟨gt, 0, none⟩ : Option Addr) else (some ⟨gt, 0, none⟩ : Option Addr).map (·.add (1 * Kd.string.sz))) := rfl
 rw [hsame] at hcut
 obtain ⟨A7, hA7⟩ : ∃ A, A = (if cT = 1 then (some ⟨gt, 0, none⟩ : Option Addr) else (some ⟨gt, 0, none⟩ : Option Addr).map (·.add (1 * Kd.string.sz))) := ⟨_, rfl⟩
 rw [← hA7] at hcut
 have HM7 : Aside0 (∀ W', Kd.C Kd.string W' (some ⟨gt, 0, none⟩) ts.length ts → Kd.C Kd.string W' A7 ((ts.take (1 + rd ns 6).toNat).drop 1).length ((ts.take (1 + rd ns 6).toNat).drop 1)) := ⟨fun W' h => by rw [hA7]; exact Kd.C_mid (lo := 1) (hi := (1 + rd ns 6).toNat) h (by omega) (by omega) HCAP.out⟩
 have hcutT := fun W => cut_from (P := Try.prog) 22 9 .i64 Try.underlying22 hi9 1 hs9 (some ⟨gt, 0, none⟩) ts.length cT (1 + rd ns 6) (by omega) (by omega) W
 have hsameT : (if cT = (1 + rd ns 6).toNat then (some ⟨gt, 0, none⟩ : Option Addr) else (some ⟨gt, 0, none⟩ : Option Addr).map (·.add ((1 + rd ns 6).toNat * 1))) = (if cT = (1 + rd ns 6).toNat then (some ⟨gt, 0, none⟩ : Option Addr) else (some ⟨gt, 0, none⟩ : Option Addr).map (·.add ((1 + rd ns 6).toNat * Kd.string.sz))) := rfl
 rw [hsameT] at hcutT
 obtain ⟨AR, hAR⟩ : ∃ A, A = (if cT = (1 + rd ns 6).toNat then (some ⟨gt, 0, none⟩ : Option Addr) else (some ⟨gt, 0, none⟩ : Option Addr).map (·.add ((1 + rd ns 6).toNat * Kd.string.sz))) := ⟨_, rfl⟩
 rw [← hAR] at hcutT
 have HMR : Aside0 (∀ W', Kd.C Kd.string W' (some ⟨gt, 0, none⟩) ts.length ts → Kd.C Kd.string W' AR (ts.drop (1 + rd ns 6).toNat).length (ts.drop (1 + rd ns 6).toNat)) := ⟨fun W' h => by rw [hAR]; exact Kd.C_drop (m := (1 + rd ns 6).toNat) h (by omega) HCAP.out⟩
 have L7 := Aside0.mk (show (1 + rd ns 6).toNat - 1 = ((ts.take (1 + rd ns 6).toNat).drop 1).length from by rw [List.length_drop, List.length_take]; omega)
 have K7 := Aside0.mk (show ((ts.take (1 + rd ns 6).toNat).drop 1).length ≤ cT - 1 from by have := HCAP.out; rw [List.length_drop, List.length_take]; omega)
 have K7L := Aside0.mk (show ((ts.take (1 + rd ns 6).toNat).drop 1).length < 8796093022208 from by rw [List.length_drop, List.length_take]; omega)
 have q1 : IntKind.i64.wrap (1 + rd ns 6) = 1 + rd ns 6 := IntWalk.i64_in _ (by omega)
 have q2 : (0 : Int) ≤ 1 + rd ns 6 := by omega
 have q3 : (1 : Int) ≤ 1 + rd ns 6 := by omega
 have q4 : 1 + rd ns 6 ≤ (ts.length : Int) := by omega
 have jt : (0 : Int) < (ts.length : Int) := by omega
 have jjt : 0 < ts.length := by omega
 have j0 : (0 : Int) < (ns.length : Int) := by omega
 have jj0 : 0 < ns.length := by omega
 have j1 : (1 : Int) < (ns.length : Int) := by omega
 have jj1 : 1 < ns.length := by omega
 have j2 : (2 : Int) < (ns.length : Int) := by omega
 have jj2 : 2 < ns.length := by omega
 have j3 : (3 : Int) < (ns.length : Int) := by omega
 have jj3 : 3 < ns.length := by omega
 have j4 : (4 : Int) < (ns.length : Int) := by omega
 have jj4 : 4 < ns.length := by omega
 have j5 : (5 : Int) < (ns.length : Int) := by omega
 have jj5 : 5 < ns.length := by omega
 clear hsame hsameT hA7 hAR hs9 hz9 hi9
 have hN7 := HQ1.out.ns
 have hT7 := HQ1.out.ts
 have hn0 : W1.cell? ⟨gn, 0, none⟩ = some (.int .i64 (rd ns 0)) := ncell HQ1.out.ns 0 (by omega)
 have hn1 : W1.cell? ⟨gn, 1, none⟩ = some (.int .i64 (rd ns 1)) := ncell HQ1.out.ns 1 (by omega)
 have hn2 : W1.cell? ⟨gn, 2, none⟩ = some (.int .i64 (rd ns 2)) := ncell HQ1.out.ns 2 (by omega)
 have hn3 : W1.cell? ⟨gn, 3, none⟩ = some (.int .i64 (rd ns 3)) := ncell HQ1.out.ns 3 (by omega)
 have hn4 : W1.cell? ⟨gn, 4, none⟩ = some (.int .i64 (rd ns 4)) := ncell HQ1.out.ns 4 (by omega)
 have hn5 : W1.cell? ⟨gn, 5, none⟩ = some (.int .i64 (rd ns 5)) := ncell HQ1.out.ns 5 (by omega)
 have ht0 : W1.cell? ⟨gt, 0, none⟩ = some (.string (rdOf ByteArray.empty ts 0)) := tcell HQ1.out.ts 0 (by omega)
 have nn1 : gn ≠ W1.heap.size := by have := Kd.R_lt hN7 gn (by simp [Value.ownBlock]); omega
 have nn2 : gt ≠ W1.heap.size := by have := Kd.R_lt hT7 gt (by simp [Value.ownBlock]); omega
 have nn3 : gp ≠ W1.heap.size := by have := blk_lt HQ1.out.bp; omega
 have nn7 : gq ≠ W1.heap.size := by have := blk_lt HQ1.out.bq; omega
 have nn4 := Ne.symm nn1
 have nn5 := Ne.symm nn2
 have nn6 := Ne.symm nn3
 clear hN7 hT7
 go_upto_region 8 with (fail)
 go_cut [10] from 68 (fun v10 wc => ∃ (gl cK : Nat) (AK : Option Addr), v10 = .pointer (some ⟨gl, 0, none⟩) ∧ Aside0 (PL w wc gq gp gl ns ts (.slice (some ⟨gn, 0, none⟩) ns.length cN) (.slice (some ⟨gt, 0, none⟩) ts.length cT) (rd ns 0) (rd ns 1) (rd ns 2) (rd ns 3) (rd ns 4) (rd ns 5) (rdOf ByteArray.empty ts 0) ((ts.take (1 + rd ns 6).toNat).drop 1) (.slice AK ((ts.take (1 + rd ns 6).toNat).drop 1).length cK) [] (.slice none 0 0)))
 case first =>
  go_region_held3 (fun W => W.cell? ⟨gn, 0, none⟩ = some (.int .i64 (rd ns 0)) ∧ W.cell? ⟨gn, 1, none⟩ = some (.int .i64 (rd ns 1)) ∧ W.cell? ⟨gn, 2, none⟩ = some (.int .i64 (rd ns 2)) ∧ W.cell? ⟨gn, 3, none⟩ = some (.int .i64 (rd ns 3)) ∧ W.cell? ⟨gn, 4, none⟩ = some (.int .i64 (rd ns 4)) ∧ W.cell? ⟨gn, 5, none⟩ = some (.int .i64 (rd ns 5)) ∧ W.cell? ⟨gp, 1, none⟩ = some (.slice (some ⟨gt, 0, none⟩) ts.length cT) ∧ W.cell? ⟨gt, 0, none⟩ = some (.string (rdOf ByteArray.empty ts 0))) (go_keep) ((go_at_call 37; (with_reducible refine (clone_len L7.out (HM7.out _ (Kd.R_reads' (QR.ts (w0 := w) (gq := gq) (gp := gp) (xs := ns) (ts := ts) (vN := .slice (some ⟨gn, 0, none⟩) ns.length cN) (vT := .slice (some ⟨gt, 0, none⟩) ts.length cT) (by (with_reducible repeat (first | exact HQ1.out | apply QR.drew | apply QR.drewN | apply QR.alloc))))).2.2) K7.out K7L.out).mono ?_); rintro e w2 ⟨v7, rfl, ho, hb⟩; obtain ⟨AK, cK, eK⟩ := Kd.R_slice ho; subst eK; have HQ2 : Aside0 (QR w w2 gq gp ns ts (.slice (some ⟨gn, 0, none⟩) ns.length cN) (.slice (some ⟨gt, 0, none⟩) ts.length cT)) := ⟨QR.below (by (with_reducible repeat (first | exact HQ1.out | apply QR.drew | apply QR.drewN | apply QR.alloc))) hb⟩; have HO2 : Aside0 (Kd.string.R 9 w2 w.heap.size (fun _ => True) (.slice AK ((ts.take (1 + rd ns 6).toNat).drop 1).length cK) ((ts.take (1 + rd ns 6).toNat).drop 1)) := ⟨Kd.R_lower ho (QR.bel (w0 := w) (gq := gq) (gp := gp) (xs := ns) (ts := ts) (vN := .slice (some ⟨gn, 0, none⟩) ns.length cN) (vT := .slice (some ⟨gt, 0, none⟩) ts.length cT) (by (with_reducible repeat (first | exact HQ1.out | apply QR.drew | apply QR.drewN | apply QR.alloc)))).size⟩; (try (have BG : Aside0 (w2.heap[W1.heap.size]? = some (.cells #[.int .i64 0, .int .i64 0, .int .i64 0, .int .i64 0, .int .i64 0, .int .i64 0, .string (⟨#[]⟩ : ByteArray), .slice none 0 0, .slice none 0 0] 25 (0, 0))) := ⟨blk_below (w := (W1.alloc (.cells #[.int .i64 0, .int .i64 0, .int .i64 0, .int .i64 0, .int .i64 0, .int .i64 0, .string (⟨#[]⟩ : ByteArray), .slice none 0 0, .slice none 0 0] 25)).drew) (blk_drew (blk_new W1 _)) hb⟩; have hg0 : w2.cell? ⟨W1.heap.size, 0, none⟩ = some (.int .i64 0) := (blk_cell BG.out 0).trans rfl; have hgf0 := blk_frozen BG.out 0; have hg1 : w2.cell? ⟨W1.heap.size, 1, none⟩ = some (.int .i64 0) := (blk_cell BG.out 1).trans rfl; have hgf1 := blk_frozen BG.out 1; have hg2 : w2.cell? ⟨W1.heap.size, 2, none⟩ = some (.int .i64 0) := (blk_cell BG.out 2).trans rfl; have hgf2 := blk_frozen BG.out 2; have hg3 : w2.cell? ⟨W1.heap.size, 3, none⟩ = some (.int .i64 0) := (blk_cell BG.out 3).trans rfl; have hgf3 := blk_frozen BG.out 3; have hg4 : w2.cell? ⟨W1.heap.size, 4, none⟩ = some (.int .i64 0) := (blk_cell BG.out 4).trans rfl; have hgf4 := blk_frozen BG.out 4; have hg5 : w2.cell? ⟨W1.heap.size, 5, none⟩ = some (.int .i64 0) := (blk_cell BG.out 5).trans rfl; have hgf5 := blk_frozen BG.out 5; have hg6 : w2.cell? ⟨W1.heap.size, 6, none⟩ = some (.string (⟨#[]⟩ : ByteArray)) := (blk_cell BG.out 6).trans rfl; have hgf6 := blk_frozen BG.out 6; have hg7 : w2.cell? ⟨W1.heap.size, 7, none⟩ = some (.slice none 0 0) := (blk_cell BG.out 7).trans rfl; have hgf7 := blk_frozen BG.out 7; have hg8 : w2.cell? ⟨W1.heap.size, 8, none⟩ = some (.slice none 0 0) := (blk_cell BG.out 8).trans rfl; have hgf8 := blk_frozen BG.out 8;  skip)); have hp1 : w2.cell? ⟨gp, 1, none⟩ = some (.slice (some ⟨gt, 0, none⟩) ts.length cT) := (blk_cell HQ2.out.bp 1).trans rfl; have hm0 : w2.cell? ⟨gn, 0, none⟩ = some (.int .i64 (rd ns 0)) := ncell HQ2.out.ns 0 (by omega); have hm1 : w2.cell? ⟨gn, 1, none⟩ = some (.int .i64 (rd ns 1)) := ncell HQ2.out.ns 1 (by omega); have hm2 : w2.cell? ⟨gn, 2, none⟩ = some (.int .i64 (rd ns 2)) := ncell HQ2.out.ns 2 (by omega); have hm3 : w2.cell? ⟨gn, 3, none⟩ = some (.int .i64 (rd ns 3)) := ncell HQ2.out.ns 3 (by omega); have hm4 : w2.cell? ⟨gn, 4, none⟩ = some (.int .i64 (rd ns 4)) := ncell HQ2.out.ns 4 (by omega); have hm5 : w2.cell? ⟨gn, 5, none⟩ = some (.int .i64 (rd ns 5)) := ncell HQ2.out.ns 5 (by omega); have hu0 : w2.cell? ⟨gt, 0, none⟩ = some (.string (rdOf ByteArray.empty ts 0)) := tcell HQ2.out.ts 0 (by omega);  clear ho hb))
  all_goals (go_wp2; go_meet)
  all_goals (case rel => first | (have bg_ := BG.out; rw [L7.out]; exact ⟨W1.heap.size, cK, AK, rfl, ⟨PL.nine HQ2.out BG.out HQ1.out.bel.size nn7 nn3 HO2.out⟩⟩) | (rw [L7.out]; exact ⟨w2.heap.size, cK, AK, rfl, ⟨PL.new HQ2.out HO2.out⟩⟩))
 case rest =>
  obtain ⟨gl, cK, AK, rfl, HP0⟩ := hcut
  clear HQ1 hn0 hn1 hn2 hn3 hn4 hn5 ht0 hP0 hP1 hq0 hqf0 hq1 hqf1 hq2 hqf2 hq3 hqf3 hq4 hqf4 hq5 hqf5 hq6 hqf6 hq7 hqf7 hq8 hqf8 nn1 nn2 nn3 nn4 nn5 nn6 hcut hcutN
  have hP1 : wc.cell? ⟨gp, 1, none⟩ = some (.slice (some ⟨gt, 0, none⟩) ts.length cT) := (blk_cell HP0.out.q.bp 1).trans rfl
  have hl7' : ns.length - 7 ≤ 1024 := by omega
  go_wp2
  go_loopw [104] (fun v104 wr => ∃ (i : Nat) (x : Int) (vW : Value), v104 = .int .i64 x ∧ Aside0 (x = (i : Int)) ∧ Aside0 (i ≤ ns.length - 7) ∧ Aside0 (PL w wr gq gp gl ns ts (.slice (some ⟨gn, 0, none⟩) ns.length cN) (.slice (some ⟨gt, 0, none⟩) ts.length cT) (rd ns 0) (rd ns 1) (rd ns 2) (rd ns 3) (rd ns 4) (rd ns 5) (rdOf ByteArray.empty ts 0) ((ts.take (1 + rd ns 6).toNat).drop 1) (.slice AK ((ts.take (1 + rd ns 6).toNat).drop 1).length cK) (wsOf (ns.drop 7) (ts.drop (1 + rd ns 6).toNat) i) vW)) (fun v104 _ => (ns.length - 7) - (intOf v104).toNat)
  case atStart => exact ⟨0, 0, _, rfl, ⟨rfl⟩, ⟨Nat.zero_le _⟩, HP0⟩
  case round =>
   obtain ⟨i, x, vW, rfl, hx, hi, HP⟩ := hrel
   clear HP0 hP1 q1 hcutT
   have hxi := hx.out
   have hile := hi.out
   obtain ⟨AW, cW, eW⟩ := Kd.R_slice HP.out.wr
   subst eW
   by_cases hlt : i < ns.length - 7
   ·have c1 : decide (x < ((ns.length - 7 : Nat) : Int)) = true := decide_eq_true (by omega)
    have p1 : 0 ≤ x := by omega
    have b1 : x ≤ 1024 := by omega
    have q0 : x < ((ns.length - 7 : Nat) : Int) := by omega
    have hxx := HX.out
    have r1 : 2 * x < ((ts.length - (1 + rd ns 6).toNat : Nat) : Int) := by omega
    have r2 : 2 * x + 1 < ((ts.length - (1 + rd ns 6).toNat : Nat) : Int) := by omega
    have r3 : 0 ≤ 2 * x := by omega
    have r4 : 0 ≤ 2 * x + 1 := by omega
    obtain ⟨adF, eF, hF⟩ := Kd.at_int (HMF.out _ (Kd.R_reads' HP.out.q.ns).2.2) x p1 (by rw [List.length_drop]; exact q0)
    obtain ⟨adR, eR, hR0⟩ := Kd.at_string (HMR.out _ (Kd.R_reads' HP.out.q.ts).2.2) (2 * x) r3 (by rw [List.length_drop]; exact r1)
    obtain ⟨adR', eR', hR1⟩ := Kd.at_string (HMR.out _ (Kd.R_reads' HP.out.q.ts).2.2) (2 * x + 1) r4 (by rw [List.length_drop]; exact r2)
    subst eF
    subst eR
    cases eR'
    have hv : wsOf (ns.drop 7) (ts.drop (1 + rd ns 6).toNat) (i + 1) = wsOf (ns.drop 7) (ts.drop (1 + rd ns 6).toNat) i ++ [⟨rdOf ByteArray.empty (ts.drop (1 + rd ns 6).toNat) (2 * x), rdOf ByteArray.empty (ts.drop (1 + rd ns 6).toNat) (2 * x + 1), rd (ns.drop 7) x == 1⟩] := by rw [ws_succ, hxi]; rfl
    have HLn : Aside0 ((wsOf (ns.drop 7) (ts.drop (1 + rd ns 6).toNat) i).length ≤ 1024) := ⟨by rw [ws_len]; omega⟩
    generalize rdOf ByteArray.empty (ts.drop (1 + rd ns 6).toNat) (2 * x) = ta at hR0 hv
    generalize rdOf ByteArray.empty (ts.drop (1 + rd ns 6).toNat) (2 * x + 1) = tb at hR1 hv
    generalize rd (ns.drop 7) x = dd at hF hv
    have HV := Aside0.mk hv
    have HI := Aside0.mk (show x + 1 = ((i + 1 : Nat) : Int) from by omega)
    have HLE := Aside0.mk (show i + 1 ≤ ns.length - 7 from hlt)
    have HM := Aside0.mk (show (ns.length - 7) - (intOf (.int .i64 (x + 1))).toNat < (ns.length - 7) - (intOf (.int .i64 x)).toNat from by simp [intOf]; omega)
    have HPd := Aside0.mk HP.out.drew
    have hlW : wr.cell? ⟨gl, 8, none⟩ = some (.slice AW (wsOf (ns.drop 7) (ts.drop (1 + rd ns 6).toNat) i).length cW) := (blk_cell HP.out.bl 8).trans rfl
    have hlW2 : ∀ o : Obj, (wr.drew.alloc o).cell? ⟨gl, 8, none⟩ = some (.slice AW (wsOf (ns.drop 7) (ts.drop (1 + rd ns 6).toNat) i).length cW) := fun o => (blk_cell (HPd.out.alloc o).bl 8).trans rfl
    have hlW3 : ∀ o : Obj, (wr.alloc o).cell? ⟨gl, 8, none⟩ = some (.slice AW (wsOf (ns.drop 7) (ts.drop (1 + rd ns 6).toNat) i).length cW) := fun o => (blk_cell (HP.out.alloc o).bl 8).trans rfl
    have s1 : IntKind.i64.wrap (2 * x) = 2 * x := IntWalk.i64_in _ (by omega)
    have s2 : IntKind.i64.wrap (2 * x + 1) = 2 * x + 1 := IntWalk.i64_in _ (by omega)
    clear hv hxi hile hlt hxx
    go_wp2_with fail
    go_region_law (refine Kd.R_append_step k49 (w0 := w) w.heap.size (by rfl) (.tmp 110) (.tmp 125) 23 49 (.agg #[.string ⟨#[]⟩, .string ⟨#[]⟩, .bool false]) 40 (by rfl) Try.underlying23 info49 rfl (by decide) (by decide) (.slice AW (wsOf (ns.drop 7) (ts.drop (1 + rd ns 6).toNat) i).length cW) (wsOf (ns.drop 7) (ts.drop (1 + rd ns 6).toNat) i) (⟨ta, tb, dd == 1⟩ : S49) [.string ta, .string tb, .bool (dd == 1)] (fun _ => True) (fun _ => False) (by rfl) (by rfl) (k49_mkM _ _ _ _) (fun _ hk => hk.elim) (fun _ _ => trivial) HPd.out.wr HPd.out.q.bel HPd.out.q.bel.size (Nat.le_trans (Nat.mul_le_mul_right 40 (Nat.add_le_add_right HLn.out 1)) (by decide)) ?_; intro v1 w1 ho hb hg hat; obtain ⟨A1, k1, e1⟩ := Kd.R_slice ho; subst e1; obtain ⟨b1, hp2⟩ := HPd.out.push ho hb hg; have HP2 := Aside0.mk hp2; have hs0 : w1.cell? ⟨gl, 8, none⟩ = some (.slice AW (wsOf (ns.drop 7) (ts.drop (1 + rd ns 6).toNat) i).length cW) := (blk_cell b1 8).trans rfl; have hf0 := blk_frozen b1 8; clear ho hb hg hat hp2 b1)
    all_goals go_wp2_with fail
    all_goals (have HP3 := HP2.out; rw [List.length_append, List.length_singleton, ← HV.out] at HP3; exact ⟨⟨i + 1, x + 1, _, rfl, HI, HLE, ⟨HP3⟩⟩, HM.out⟩)
   ·have c1 : decide (x < ((ns.length - 7 : Nat) : Int)) = false := decide_eq_false (by omega)
    obtain rfl : i = ns.length - 7 := by omega
    clear hxi hile hlt
    have hl0 : wr.cell? ⟨gl, 0, none⟩ = some (.int .i64 (rd ns 0)) := (blk_cell HP.out.bl 0).trans rfl
    have hl1 : wr.cell? ⟨gl, 1, none⟩ = some (.int .i64 (rd ns 1)) := (blk_cell HP.out.bl 1).trans rfl
    have hl2 : wr.cell? ⟨gl, 2, none⟩ = some (.int .i64 (rd ns 2)) := (blk_cell HP.out.bl 2).trans rfl
    have hl3 : wr.cell? ⟨gl, 3, none⟩ = some (.int .i64 (rd ns 3)) := (blk_cell HP.out.bl 3).trans rfl
    have hl4 : wr.cell? ⟨gl, 4, none⟩ = some (.int .i64 (rd ns 4)) := (blk_cell HP.out.bl 4).trans rfl
    have hl5 : wr.cell? ⟨gl, 5, none⟩ = some (.int .i64 (rd ns 5)) := (blk_cell HP.out.bl 5).trans rfl
    have hl6 : wr.cell? ⟨gl, 6, none⟩ = some (.string (rdOf ByteArray.empty ts 0)) := (blk_cell HP.out.bl 6).trans rfl
    have hl7 : wr.cell? ⟨gl, 7, none⟩ = some (.slice AK ((ts.take (1 + rd ns 6).toNat).drop 1).length cK) := (blk_cell HP.out.bl 7).trans rfl
    have hl8 : wr.cell? ⟨gl, 8, none⟩ = some (.slice AW (wsOf (ns.drop 7) (ts.drop (1 + rd ns 6).toNat) (ns.length - 7)).length cW) := (blk_cell HP.out.bl 8).trans rfl
    by_cases he : ee = 0
    ·subst he
     by_cases hbs : bb = s
     ·subst hbs
      rw [if_pos ⟨rfl, rfl⟩] at HRR
      go_wp2_with (go_at_call 10; (with_reducible refine (enc_len (k := k) L7.out (Kd.R_reads' HP.out.kr).2.2 (Kd.R_reads' HP.out.kr).2.1 (Kd.R_reads' HP.out.wr).2.2 (Kd.R_reads' HP.out.wr).2.1 HEN.out).mono ?_); rintro e9 w9 ⟨rfl, hb⟩; have HP9 := Aside0.mk (HP.out.below hb); have hq0 : w9.cell? ⟨gq, 0, none⟩ = some (.int .i64 0) := (blk_cell HP9.out.q.bq 0).trans rfl; have hqf0 := blk_frozen HP9.out.q.bq 0; have hq1 : w9.cell? ⟨gq, 1, none⟩ = some (.int .i64 0) := (blk_cell HP9.out.q.bq 1).trans rfl; have hqf1 := blk_frozen HP9.out.q.bq 1; have hq2 : w9.cell? ⟨gq, 2, none⟩ = some (.int .i64 0) := (blk_cell HP9.out.q.bq 2).trans rfl; have hqf2 := blk_frozen HP9.out.q.bq 2; have hq3 : w9.cell? ⟨gq, 3, none⟩ = some (.int .i64 0) := (blk_cell HP9.out.q.bq 3).trans rfl; have hqf3 := blk_frozen HP9.out.q.bq 3; have hq4 : w9.cell? ⟨gq, 4, none⟩ = some (.int .i64 0) := (blk_cell HP9.out.q.bq 4).trans rfl; have hqf4 := blk_frozen HP9.out.q.bq 4; have hq5 : w9.cell? ⟨gq, 5, none⟩ = some (.int .i64 0) := (blk_cell HP9.out.q.bq 5).trans rfl; have hqf5 := blk_frozen HP9.out.q.bq 5; have hq6 : w9.cell? ⟨gq, 6, none⟩ = some (.string (⟨#[]⟩ : ByteArray)) := (blk_cell HP9.out.q.bq 6).trans rfl; have hqf6 := blk_frozen HP9.out.q.bq 6; have hq7 : w9.cell? ⟨gq, 7, none⟩ = some (.slice none 0 0) := (blk_cell HP9.out.q.bq 7).trans rfl; have hqf7 := blk_frozen HP9.out.q.bq 7; have hq8 : w9.cell? ⟨gq, 8, none⟩ = some (.slice none 0 0) := (blk_cell HP9.out.q.bq 8).trans rfl; have hqf8 := blk_frozen HP9.out.q.bq 8;  have hm0 : w9.cell? ⟨gl, 0, none⟩ = some (.int .i64 (rd ns 0)) := (blk_cell HP9.out.bl 0).trans rfl; have hm1 : w9.cell? ⟨gl, 1, none⟩ = some (.int .i64 (rd ns 1)) := (blk_cell HP9.out.bl 1).trans rfl; have hm2 : w9.cell? ⟨gl, 2, none⟩ = some (.int .i64 (rd ns 2)) := (blk_cell HP9.out.bl 2).trans rfl; have hm3 : w9.cell? ⟨gl, 3, none⟩ = some (.int .i64 (rd ns 3)) := (blk_cell HP9.out.bl 3).trans rfl; have hm4 : w9.cell? ⟨gl, 4, none⟩ = some (.int .i64 (rd ns 4)) := (blk_cell HP9.out.bl 4).trans rfl; have hm5 : w9.cell? ⟨gl, 5, none⟩ = some (.int .i64 (rd ns 5)) := (blk_cell HP9.out.bl 5).trans rfl; have hm6 : w9.cell? ⟨gl, 6, none⟩ = some (.string (rdOf ByteArray.empty ts 0)) := (blk_cell HP9.out.bl 6).trans rfl; have hm7 : w9.cell? ⟨gl, 7, none⟩ = some (.slice AK ((ts.take (1 + rd ns 6).toNat).drop 1).length cK) := (blk_cell HP9.out.bl 7).trans rfl; have hm8 : w9.cell? ⟨gl, 8, none⟩ = some (.slice AW (wsOf (ns.drop 7) (ts.drop (1 + rd ns 6).toNat) (ns.length - 7)).length cW) := (blk_cell HP9.out.bl 8).trans rfl;  clear hb)
      have hr9 := Kd.R_keep (Kd.R_types HP9.out.wr HP9.out.q.bq (by decide)) (keep9 (W := w9) (g := gq) (c0 := .int .i64 (rd ns 0)) (c1 := .int .i64 (rd ns 1)) (c2 := .int .i64 (rd ns 2)) (c3 := .int .i64 (rd ns 3)) (c4 := .int .i64 (rd ns 4)) (c5 := .int .i64 (rd ns 5)) (c6 := .string (rdOf ByteArray.empty ts 0)) (c7 := .slice AK ((1 + rd ns 6).toNat - 1) cK) (c8 := .slice AW (wsOf (ns.drop 7) (ts.drop (1 + rd ns 6).toNat) (ns.length - 7)).length cW)) (fun _ hk => hk.2)
      have hk9 := Kd.R_keep (Kd.R_types HP9.out.kr HP9.out.q.bq (by decide)) (keep9 (W := w9) (g := gq) (c0 := .int .i64 (rd ns 0)) (c1 := .int .i64 (rd ns 1)) (c2 := .int .i64 (rd ns 2)) (c3 := .int .i64 (rd ns 3)) (c4 := .int .i64 (rd ns 4)) (c5 := .int .i64 (rd ns 5)) (c6 := .string (rdOf ByteArray.empty ts 0)) (c7 := .slice AK ((1 + rd ns 6).toNat - 1) cK) (c8 := .slice AW (wsOf (ns.drop 7) (ts.drop (1 + rd ns 6).toNat) (ns.length - 7)).length cW)) (fun _ hk => hk.2)
      rw [← L7.out] at hk9
      refine bodyPost_ret (results_ct rfl _ _ gq 25 #[.int .i64 (rd ns 0), .int .i64 (rd ns 1), .int .i64 (rd ns 2), .int .i64 (rd ns 3), .int .i64 (rd ns 4), .int .i64 (rd ns 5), .string (rdOf ByteArray.empty ts 0), .slice AK ((1 + rd ns 6).toNat - 1) cK, .slice AW (wsOf (ns.drop 7) (ts.drop (1 + rd ns 6).toNat) (ns.length - 7)).length cW] (0, 0) _ rfl (set9 HP9.out.q.bq) Try.underlying25 rfl (by kernel_rfl)) rfl ?_
      exact ⟨.slice AK ((1 + rd ns 6).toNat - 1) cK, _, by rw [← HRR]; rfl, by rw [← HRR]; exact Kd.R_mono hk9 (fun _ _ => trivial), by rw [← HRR]; exact Kd.R_mono hr9 (fun _ _ => trivial), below9 HP9.out.q.bel HP9.out.q.geq⟩
     ·have t1 : (bb.toList == s.toList) = false := beq_eq_false_iff_ne.2 (fun ht => hbs (B_inj (by rw [← toList_eq, ← toList_eq, ht])))
      have t2 : (bb.toList != s.toList) = true := bne_iff_ne.2 (fun ht => hbs (B_inj (by rw [← toList_eq, ← toList_eq, ht])))
      rw [if_neg (fun h => hbs h.2)] at HRR
      clear hbs
      go_wp2_with (go_at_call 10; (with_reducible refine (enc_len (k := k) L7.out (Kd.R_reads' HP.out.kr).2.2 (Kd.R_reads' HP.out.kr).2.1 (Kd.R_reads' HP.out.wr).2.2 (Kd.R_reads' HP.out.wr).2.1 HEN.out).mono ?_); rintro e9 w9 ⟨rfl, hb⟩; have HP9 := Aside0.mk (HP.out.below hb); have hq0 : w9.cell? ⟨gq, 0, none⟩ = some (.int .i64 0) := (blk_cell HP9.out.q.bq 0).trans rfl; have hqf0 := blk_frozen HP9.out.q.bq 0; have hq1 : w9.cell? ⟨gq, 1, none⟩ = some (.int .i64 0) := (blk_cell HP9.out.q.bq 1).trans rfl; have hqf1 := blk_frozen HP9.out.q.bq 1; have hq2 : w9.cell? ⟨gq, 2, none⟩ = some (.int .i64 0) := (blk_cell HP9.out.q.bq 2).trans rfl; have hqf2 := blk_frozen HP9.out.q.bq 2; have hq3 : w9.cell? ⟨gq, 3, none⟩ = some (.int .i64 0) := (blk_cell HP9.out.q.bq 3).trans rfl; have hqf3 := blk_frozen HP9.out.q.bq 3; have hq4 : w9.cell? ⟨gq, 4, none⟩ = some (.int .i64 0) := (blk_cell HP9.out.q.bq 4).trans rfl; have hqf4 := blk_frozen HP9.out.q.bq 4; have hq5 : w9.cell? ⟨gq, 5, none⟩ = some (.int .i64 0) := (blk_cell HP9.out.q.bq 5).trans rfl; have hqf5 := blk_frozen HP9.out.q.bq 5; have hq6 : w9.cell? ⟨gq, 6, none⟩ = some (.string (⟨#[]⟩ : ByteArray)) := (blk_cell HP9.out.q.bq 6).trans rfl; have hqf6 := blk_frozen HP9.out.q.bq 6; have hq7 : w9.cell? ⟨gq, 7, none⟩ = some (.slice none 0 0) := (blk_cell HP9.out.q.bq 7).trans rfl; have hqf7 := blk_frozen HP9.out.q.bq 7; have hq8 : w9.cell? ⟨gq, 8, none⟩ = some (.slice none 0 0) := (blk_cell HP9.out.q.bq 8).trans rfl; have hqf8 := blk_frozen HP9.out.q.bq 8;  have hm0 : w9.cell? ⟨gl, 0, none⟩ = some (.int .i64 (rd ns 0)) := (blk_cell HP9.out.bl 0).trans rfl; have hm1 : w9.cell? ⟨gl, 1, none⟩ = some (.int .i64 (rd ns 1)) := (blk_cell HP9.out.bl 1).trans rfl; have hm2 : w9.cell? ⟨gl, 2, none⟩ = some (.int .i64 (rd ns 2)) := (blk_cell HP9.out.bl 2).trans rfl; have hm3 : w9.cell? ⟨gl, 3, none⟩ = some (.int .i64 (rd ns 3)) := (blk_cell HP9.out.bl 3).trans rfl; have hm4 : w9.cell? ⟨gl, 4, none⟩ = some (.int .i64 (rd ns 4)) := (blk_cell HP9.out.bl 4).trans rfl; have hm5 : w9.cell? ⟨gl, 5, none⟩ = some (.int .i64 (rd ns 5)) := (blk_cell HP9.out.bl 5).trans rfl; have hm6 : w9.cell? ⟨gl, 6, none⟩ = some (.string (rdOf ByteArray.empty ts 0)) := (blk_cell HP9.out.bl 6).trans rfl; have hm7 : w9.cell? ⟨gl, 7, none⟩ = some (.slice AK ((ts.take (1 + rd ns 6).toNat).drop 1).length cK) := (blk_cell HP9.out.bl 7).trans rfl; have hm8 : w9.cell? ⟨gl, 8, none⟩ = some (.slice AW (wsOf (ns.drop 7) (ts.drop (1 + rd ns 6).toNat) (ns.length - 7)).length cW) := (blk_cell HP9.out.bl 8).trans rfl;  clear hb)
      refine bodyPost_ret (results_ct rfl _ _ gq 25 #[.int .i64 0, .int .i64 0, .int .i64 0, .int .i64 0, .int .i64 0, .int .i64 0, .string (⟨#[]⟩ : ByteArray), .slice none 0 0, .slice none 0 0] (0, 0) _ rfl (set9 HP9.out.q.bq) Try.underlying25 rfl (by kernel_rfl)) rfl ?_
      exact ⟨_, _, by rw [← HRR]; rfl, by rw [← HRR]; exact Kd.R_nil _ _ _ _ _, by rw [← HRR]; exact Kd.R_nil _ _ _ _ _, below9 HP9.out.q.bel HP9.out.q.geq⟩
    ·have t1 : (ee == 0) = false := beq_eq_false_iff_ne.2 he
     have t2 : (ee != 0) = true := bne_iff_ne.2 he
     rw [if_neg (fun h => he h.1)] at HRR
     clear he
     go_wp2_with (go_at_call 10; (with_reducible refine (enc_len (k := k) L7.out (Kd.R_reads' HP.out.kr).2.2 (Kd.R_reads' HP.out.kr).2.1 (Kd.R_reads' HP.out.wr).2.2 (Kd.R_reads' HP.out.wr).2.1 HEN.out).mono ?_); rintro e9 w9 ⟨rfl, hb⟩; have HP9 := Aside0.mk (HP.out.below hb); have hq0 : w9.cell? ⟨gq, 0, none⟩ = some (.int .i64 0) := (blk_cell HP9.out.q.bq 0).trans rfl; have hqf0 := blk_frozen HP9.out.q.bq 0; have hq1 : w9.cell? ⟨gq, 1, none⟩ = some (.int .i64 0) := (blk_cell HP9.out.q.bq 1).trans rfl; have hqf1 := blk_frozen HP9.out.q.bq 1; have hq2 : w9.cell? ⟨gq, 2, none⟩ = some (.int .i64 0) := (blk_cell HP9.out.q.bq 2).trans rfl; have hqf2 := blk_frozen HP9.out.q.bq 2; have hq3 : w9.cell? ⟨gq, 3, none⟩ = some (.int .i64 0) := (blk_cell HP9.out.q.bq 3).trans rfl; have hqf3 := blk_frozen HP9.out.q.bq 3; have hq4 : w9.cell? ⟨gq, 4, none⟩ = some (.int .i64 0) := (blk_cell HP9.out.q.bq 4).trans rfl; have hqf4 := blk_frozen HP9.out.q.bq 4; have hq5 : w9.cell? ⟨gq, 5, none⟩ = some (.int .i64 0) := (blk_cell HP9.out.q.bq 5).trans rfl; have hqf5 := blk_frozen HP9.out.q.bq 5; have hq6 : w9.cell? ⟨gq, 6, none⟩ = some (.string (⟨#[]⟩ : ByteArray)) := (blk_cell HP9.out.q.bq 6).trans rfl; have hqf6 := blk_frozen HP9.out.q.bq 6; have hq7 : w9.cell? ⟨gq, 7, none⟩ = some (.slice none 0 0) := (blk_cell HP9.out.q.bq 7).trans rfl; have hqf7 := blk_frozen HP9.out.q.bq 7; have hq8 : w9.cell? ⟨gq, 8, none⟩ = some (.slice none 0 0) := (blk_cell HP9.out.q.bq 8).trans rfl; have hqf8 := blk_frozen HP9.out.q.bq 8;  have hm0 : w9.cell? ⟨gl, 0, none⟩ = some (.int .i64 (rd ns 0)) := (blk_cell HP9.out.bl 0).trans rfl; have hm1 : w9.cell? ⟨gl, 1, none⟩ = some (.int .i64 (rd ns 1)) := (blk_cell HP9.out.bl 1).trans rfl; have hm2 : w9.cell? ⟨gl, 2, none⟩ = some (.int .i64 (rd ns 2)) := (blk_cell HP9.out.bl 2).trans rfl; have hm3 : w9.cell? ⟨gl, 3, none⟩ = some (.int .i64 (rd ns 3)) := (blk_cell HP9.out.bl 3).trans rfl; have hm4 : w9.cell? ⟨gl, 4, none⟩ = some (.int .i64 (rd ns 4)) := (blk_cell HP9.out.bl 4).trans rfl; have hm5 : w9.cell? ⟨gl, 5, none⟩ = some (.int .i64 (rd ns 5)) := (blk_cell HP9.out.bl 5).trans rfl; have hm6 : w9.cell? ⟨gl, 6, none⟩ = some (.string (rdOf ByteArray.empty ts 0)) := (blk_cell HP9.out.bl 6).trans rfl; have hm7 : w9.cell? ⟨gl, 7, none⟩ = some (.slice AK ((ts.take (1 + rd ns 6).toNat).drop 1).length cK) := (blk_cell HP9.out.bl 7).trans rfl; have hm8 : w9.cell? ⟨gl, 8, none⟩ = some (.slice AW (wsOf (ns.drop 7) (ts.drop (1 + rd ns 6).toNat) (ns.length - 7)).length cW) := (blk_cell HP9.out.bl 8).trans rfl;  clear hb)
     refine bodyPost_ret (results_ct rfl _ _ gq 25 #[.int .i64 0, .int .i64 0, .int .i64 0, .int .i64 0, .int .i64 0, .int .i64 0, .string (⟨#[]⟩ : ByteArray), .slice none 0 0, .slice none 0 0] (0, 0) _ rfl (set9 HP9.out.q.bq) Try.underlying25 rfl (by kernel_rfl)) rfl ?_
     exact ⟨_, _, by rw [← HRR]; rfl, by rw [← HRR]; exact Kd.R_nil _ _ _ _ _, by rw [← HRR]; exact Kd.R_nil _ _ _ _ _, below9 HP9.out.q.bel HP9.out.q.geq⟩
/-- What a pack's numbers and texts are as a letter. -/
def letOf (k : Nat) (s : ByteArray) (ns : List Int) (ts : List ByteArray) : Option RLet :=
 if 0 ≤ rd ns 6 ∧ rd ns 6 < (ts.length : Int) ∧ (ts.length : Int) = 1 + rd ns 6 + 2 * ((ns.length - 7 : Nat) : Int) then
  (letter_Encode.f k (rd ns 0) (rd ns 1) (rd ns 2) (rd ns 3) (rd ns 4) (rd ns 5) (rdOf ByteArray.empty ts 0) ((ts.take (1 + rd ns 6).toNat).drop 1) (wsOf (ns.drop 7) (ts.drop (1 + rd ns 6).toNat) (ns.length - 7))).bind fun be => if be.2 = 0 ∧ be.1 = s then some ((rd ns 0), (rd ns 1), (rd ns 2), (rd ns 3), (rd ns 4), (rd ns 5), (rdOf ByteArray.empty ts 0), ((ts.take (1 + rd ns 6).toNat).drop 1), wsOf (ns.drop 7) (ts.drop (1 + rd ns 6).toNat) (ns.length - 7), 0) else some noLet
 else some noLet
def decF (k : Nat) (s : ByteArray) : Option RLet :=
 (pack_Decode.f s).bind fun d => if d.2.2.2 = 0 ∧ 7 ≤ d.1.length ∧ 1 ≤ d.2.1.length then letOf k s d.1 d.2.1 else some noLet
theorem nolet_E {w : World} {e : Ending} {w' : World} (h : NoLetE w e w') : RLetE w noLet e w' := ⟨.slice none 0 0, .slice none 0 0, h.1, Kd.R_nil _ _ _ _ _, Kd.R_nil _ _ _ _ _, h.2⟩
theorem decF_calls (k : Nat) (s : ByteArray) (r : RLet) (w : World) (h : decF k s = some r) : Calls Try.prog 24 #[.string s] w (RLetE w r) := by
 unfold decF at h
 cases hd : pack_Decode.f s with
 |none => rw [hd] at h; cases h
 |some d =>
  obtain ⟨ns, ts, p, e⟩ := d
  rw [hd, Option.bind_some] at h
  have hl : ns.length ≤ 1024 ∧ ts.length ≤ 1024 := by
   unfold pack_Decode.f at hd
   split at hd
   ·simp only [Option.some.injEq, Prod.mk.injEq] at hd
    rw [← hd.1, ← hd.2.1]; exact DecLen.dec_len s
   ·cases hd
  have no : ∀ (_ : Calls Try.prog 24 #[.string s] w (NoLetE w)) (_ : some noLet = some r), Calls Try.prog 24 #[.string s] w (RLetE w r) := fun hc hr => by
   obtain rfl := Option.some.inj hr
   exact hc.mono fun e w' he => nolet_E he
  by_cases c : e = 0 ∧ 7 ≤ ns.length ∧ 1 ≤ ts.length
  ·rw [if_pos c] at h
   obtain ⟨he, hn, ht⟩ := c
   have he' : e = 0 := he
   subst he'
   unfold letOf at h
   by_cases m : 0 ≤ rd ns 6 ∧ rd ns 6 < (ts.length : Int) ∧ (ts.length : Int) = 1 + rd ns 6 + 2 * ((ns.length - 7 : Nat) : Int)
   ·rw [if_pos m] at h
    cases hb : letter_Encode.f k (rd ns 0) (rd ns 1) (rd ns 2) (rd ns 3) (rd ns 4) (rd ns 5) (rdOf ByteArray.empty ts 0) ((ts.take (1 + rd ns 6).toNat).drop 1) (wsOf (ns.drop 7) (ts.drop (1 + rd ns 6).toNat) (ns.length - 7)) with
    |none => rw [hb] at h; cases h
    |some q =>
     obtain ⟨bb, ee⟩ := q
     rw [hb, Option.bind_some] at h
     refine ld_go s ns ts p w hd hn ht hl.2 hl.1 m.1 m.2.1 m.2.2 k bb ee hb r ?_
     by_cases hx : ee = 0 ∧ bb = s
     ·rw [if_pos hx] at h ⊢
      exact Option.some.inj h
     ·rw [if_neg hx] at h ⊢
      exact Option.some.inj h
   ·rw [if_neg m] at h
    by_cases m0 : rd ns 6 < 0
    ·exact no (ld_m1 s ns ts p w hd hn ht m0) h
    ·by_cases m1 : (ts.length : Int) ≤ rd ns 6
     ·exact no (ld_m2 s ns ts p w hd hn ht hl.2 (by omega) m1) h
     ·exact no (ld_m3 s ns ts p w hd hn ht hl.2 hl.1 (by omega) (by omega) (fun hc => m ⟨by omega, by omega, hc⟩)) h
  ·rw [if_neg c] at h
   by_cases he : e = 0
   ·subst he
    by_cases hn : ns.length < 7
    ·exact no (ld_n s ns ts p w hd hn) h
    ·have : ts = [] := by
      cases ts with
      |nil => rfl
      |cons t r => exact absurd ⟨rfl, by omega, by simp⟩ c
     exact no (ld_t s ns ts p w hd (by omega) this) h
   ·exact no (ld_e s ns ts p e w hd he) h
end LD
def letter_Decode.f (k : Nat) (a0 : ByteArray) : Option (Int × Int × Int × Int × Int × Int × ByteArray × List ByteArray × List S49 × Int) := LD.decF k a0
theorem letter_Decode.mono : ∀ a0 k, LeO (letter_Decode.f k a0) (letter_Decode.f (k + 1) a0) := by
 intro a0 k
 unfold letter_Decode.f LD.decF
 refine LeO.bind (LeO.refl _) (fun d => LeO.ite ?_ (LeO.refl _))
 unfold LD.letOf
 exact LeO.ite (LeO.bind (letter_Encode.mono _ _ _ _ _ _ _ _ _ _) (fun _ => LeO.refl _)) (LeO.refl _)
theorem letter_Decode.calls (k : Nat) (a0 : ByteArray) (r1 r2 r3 r4 r5 r6 : Int) (r7 : ByteArray) (r8 : List ByteArray) (r9 : List S49) (r10 : Int) (w : World) (h : letter_Decode.f k a0 = some (r1, r2, r3, r4, r5, r6, r7, r8, r9, r10)) :
  Calls Try.prog 24 #[.string a0] w fun e w' => ∃ v7_ v8_ : Value, e = .returned (.tuple #[.agg #[.int .i64 r1, .int .i64 r2, .int .i64 r3, .int .i64 r4, .int .i64 r5, .int .i64 r6, .string r7, v7_, v8_], .int .i64 r10]) ∧ Kd.R Kd.string 9 w' w.heap.size (fun _ => True) v7_ r8 ∧ Kd.R k49 49 w' w.heap.size (fun _ => True) v8_ r9 ∧ Below w.heap.size w w' := LD.decF_calls k a0 (r1, r2, r3, r4, r5, r6, r7, r8, r9, r10) w h
end Go.Proofs.Ytelgpkbnahgdoaa.Al
