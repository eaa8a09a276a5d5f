/- What the laws stand on, in one text: functions of the program by their contracts, and the plain mathematics behind them (15 of them). -/
import Derived.Test.YtoghhpkmficnmaaPea
import Derived.Lib.SlBuf
namespace Go.Proofs.Ytoghhpkmficnmaa.Al
open Go.RowKit Go.Proofs.YtoghhpkmficnmaaW.PrintWords
theorem cfz3 {w : World} {g t : Nat} {c0 c1 c2 : Value} (h : w.heap[g]? = some (.cells #[c0, c1, c2] t (0, 0))) : w.cell? ⟨g, 0, none⟩ = some c0 ∧ w.frozen? ⟨g, 0, none⟩ = false ∧ w.cell? ⟨g, 1, none⟩ = some c1 ∧ w.frozen? ⟨g, 1, none⟩ = false ∧ w.cell? ⟨g, 2, none⟩ = some c2 ∧ w.frozen? ⟨g, 2, none⟩ = false := ⟨(blk_cell h 0).trans rfl, blk_frozen h 0, (blk_cell h 1).trans rfl, blk_frozen h 1, (blk_cell h 2).trans rfl, blk_frozen h 2⟩
end Go.Proofs.Ytoghhpkmficnmaa.Al

/- What an elimination works on: two grids, the field's table, the result's block; what each step leaves. -/
namespace Go.Proofs.Ytoghhpkmficnmaa.Al
open Go.RowKit Go.Proofs.Ytoghhpkmficnmaa.GfMath Go.Proofs.Ytoghhpkmficnmaa.GfRef Go.Proofs.Ytoghhpkmficnmaa.Base Go.Proofs.Ytoghhpkmficnmaa.Bytes Go.Proofs.Ytoghhpkmficnmaa.Grid Go.Proofs.YtoghhpkmficnmaaW.PrintWords Go.Proofs.YtoghhpkmficnmaaW.PrintLast Go.Proofs.YtoghhpkmficnmaaW.PrintMore
set_option linter.unusedVariables false
set_option linter.unusedSimpArgs false
def toI (A : Mx) (i j : Nat) : Int := ((A i j : Nat) : Int)
theorem toI_by {A : Mx} (h : By2 A) : ByF (toI A) := fun i j => by have := h i j; unfold toI Byte; omega
def entN (c : Nat) (s : ByteArray) : Mx := fun i j => (bt s ((i * c + j : Nat) : Int)).toNat
theorem entN_by (c : Nat) (s : ByteArray) : By2 (entN c s) := fun i j => by have := bt_range s ((i * c + j : Nat) : Int); unfold entN; omega
theorem toI_ent (c : Nat) (s : ByteArray) (i j : Nat) : toI (entN c s) i j = bt s ((i * c + j : Nat) : Int) := by
 have := bt_range s ((i * c + j : Nat) : Int)
 unfold toI entN; omega
theorem toI_Ix (i j : Nat) : toI Ix i j = ixI i j := by unfold toI Ix ixI; split <;> rfl
theorem grid_keepR {B : Nat} {W W' : World} {v : Value} {m : Nat} {os : List (Option (Nat × Nat))} {rs rs' : List (Nat × Nat)} {f f' : Nat → Nat → Int} {v' : Value} {os' : List (Option (Nat × Nat))} {m' : Nat} (h : Grid B W v m os rs f) (h' : Grid B W v' m' os' rs' f') (hk : KeepR rs' W W') (hs : ∀ p, p ∈ rs' → ∀ q, q ∈ rs → p.1 ≠ q.1) : Grid B W' v m os rs f := by
 refine ⟨Kd.R_mono (Kd.R_move (Kd.R_bound h.out) (fun k hk' => ?_)) (fun _ _ => trivial), fun i p hp => ⟨(h.row i p hp).1.keep (hk.2 p.1 (h.row i p hp).1.lt (fun q hq => hs q hq p (List.mem_of_getElem? hp))), (h.row i p hp).2⟩, h.nd⟩
 obtain ⟨_, _, hlt, q, hq, cells, hc⟩ := hk'
 refine hk.2 k hlt (fun p hp he => ?_)
 obtain ⟨i, hi⟩ := List.mem_iff_getElem?.1 hp
 have hq' : q = 54 := by simpa [kG, Kd.scalar] using hq
 subst hq'
 exact (h'.row i p hi).1.ne hc (by decide) he
theorem grid_keepB {B : Nat} {W W' : World} {g0 n cap : Nat} {m : Nat} {os : List (Option (Nat × Nat))} {rs rs' : List (Nat × Nat)} {f f' : Nat → Nat → Int} {g' n' cap' : Nat} {os' : List (Option (Nat × Nat))} {m' : Nat} (h : Grid B W (.slice (some ⟨g0, 0, none⟩) n cap) m os rs f) (h' : Grid B W (.slice (some ⟨g', 0, none⟩) n' cap') m' os' rs' f') (hk : KeepBut W W' g' none) (hs : g0 ≠ g') : Grid B W' (.slice (some ⟨g0, 0, none⟩) n cap) m os rs f := by
 obtain ⟨cells', hc'⟩ := Kd.R_typed h'.out g' (by simp [Value.ownBlock])
 refine ⟨?_, fun i p hp => ⟨(h.row i p hp).1.keep (hk.2 p.1 (h.row i p hp).1.lt ((h.row i p hp).1.ne hc' (by decide)) (by simp)), (h.row i p hp).2⟩, h.nd⟩
 obtain ⟨ho, inner, how, hr⟩ := h.out
 have hlt := (Array.getElem?_eq_some_iff.1 (Kd.R_typed h.out g0 (by simp [Value.ownBlock])).choose_spec).1
 refine ⟨ho, inner, own_move how (fun k hk' => ?_), hr.imp_ (fun _ _ hp => hp)⟩
 obtain rfl : g0 = k := by simpa [Value.ownBlock] using hk'
 exact hk.2 g0 hlt hs (by simp)
theorem keepR_blk {B : Nat} {W W' : World} {v : Value} {m : Nat} {os : List (Option (Nat × Nat))} {rs : List (Nat × Nat)} {f : Nat → Nat → Int} (h : Grid B W v m os rs f) (hk : KeepR rs W W') {g t : Nat} {cs : Array Value} (hb : W.heap[g]? = some (.cells cs t (0, 0))) (ht : t ≠ 5) : W'.heap[g]? = some (.cells cs t (0, 0)) :=
 (hk.2 g (blk_lt hb) (fun p hp he => by
  obtain ⟨i, hi⟩ := List.mem_iff_getElem?.1 hp
  exact (h.row i p hi).1.ne hb ht he)).trans hb
theorem keepB_blk {B : Nat} {W W' : World} {g0 n cap : Nat} {m : Nat} {os : List (Option (Nat × Nat))} {rs : List (Nat × Nat)} {f : Nat → Nat → Int} (h : Grid B W (.slice (some ⟨g0, 0, none⟩) n cap) m os rs f) (hk : KeepBut W W' g0 none) {g t : Nat} {cs : Array Value} (hb : W.heap[g]? = some (.cells cs t (0, 0))) (ht : t ≠ 54) : W'.heap[g]? = some (.cells cs t (0, 0)) := by
 obtain ⟨cells, hc⟩ := Kd.R_typed h.out g0 (by simp [Value.ownBlock])
 exact (hk.2 g (blk_lt hb) (blk_ne hb hc ht) (by simp)).trans hb
/-- The function value of a grid's swap. -/
def fv (g n c : Nat) : Value := .func (.func 38) #[.slice (some ⟨g, 0, none⟩) n c] #[]
structure IS (w0 W : World) (n gf gq gs gL cL gR cR : Nat) (rL rR : List (Nat × Nat)) (A B : Mx) : Prop where
 tab : Tab W gf
 bq : W.heap[gq]? = some (.cells #[.int .i64 0, .int .i64 0, .string ⟨#[]⟩] 24 (0, 0))
 bs : W.heap[gs]? = some (.cells #[fv gL n cL, fv gR n cR] 65 (0, 0))
 L : Grid w0.heap.size W (.slice (some ⟨gL, 0, none⟩) n cL) n (rL.map some) rL (toI A)
 R : Grid w0.heap.size W (.slice (some ⟨gR, 0, none⟩) n cR) n (rR.map some) rR (toI B)
 nL : rL.length = n
 nR : rR.length = n
 ne : gL ≠ gR
 sep : ∀ p, p ∈ rL → ∀ q, q ∈ rR → p.1 ≠ q.1
 bA : By2 A
 bB : By2 B
 bel : Below w0.heap.size w0 W
 geq : w0.heap.size ≤ gq
section
variable {w0 W W' : World} {n gf gq gs gL cL gR cR : Nat} {rL rR : List (Nat × Nat)} {A B : Mx}
theorem IS.below (h : IS w0 W n gf gq gs gL cL gR cR rL rR A B) (hb : Below W.heap.size W W') : IS w0 W' n gf gq gs gL cL gR cR rL rR A B :=
 ⟨h.tab.below hb, blk_below h.bq hb, blk_below h.bs hb, h.L.below hb, h.R.below hb, h.nL, h.nR, h.ne, h.sep, h.bA, h.bB, below_step h.bel hb, h.geq⟩
theorem IS.drewN (h : IS w0 W n gf gq gs gL cL gR cR rL rR A B) (k : Nat) : IS w0 (W.drewN k) n gf gq gs gL cL gR cR rL rR A B := h.below (pw_below_drewN (Below.refl _ _) k)
theorem IS.congr (h : IS w0 W n gf gq gs gL cL gR cR rL rR A B) {A' B' : Mx} (ba : By2 A') (bb : By2 B') (ha : ∀ i j, i < n → j < n → A i j = A' i j) (hb : ∀ i j, i < n → j < n → B i j = B' i j) : IS w0 W n gf gq gs gL cL gR cR rL rR A' B' :=
 { h with L := h.L.congr (fun i j hi hj => by unfold toI; rw [ha i j (by rw [← h.nL]; exact hi) hj]), R := h.R.congr (fun i j hi hj => by unfold toI; rw [hb i j (by rw [← h.nR]; exact hi) hj]), bA := ba, bB := bb }
theorem tab_keepR (h : IS w0 W n gf gq gs gL cL gR cR rL rR A B) (hk : KeepR rL W W') : Tab W' gf := by
 obtain ⟨cs, hcs, hok⟩ := h.tab
 exact ⟨cs, keepR_blk h.L hk hcs (by decide), hok⟩
theorem IS.rowsL (h : IS w0 W n gf gq gs gL cL gR cR rL rR A B) {f : Nat → Nat → Int} {A' : Mx} (hG : Grid w0.heap.size W' (.slice (some ⟨gL, 0, none⟩) n cL) n (rL.map some) rL f) (hf : ∀ i j, f i j = toI A' i j) (ba : By2 A') (hk : KeepR rL W W') (hb : Below w0.heap.size w0 W') : IS w0 W' n gf gq gs gL cL gR cR rL rR A' B :=
 ⟨tab_keepR h hk, keepR_blk h.L hk h.bq (by decide), keepR_blk h.L hk h.bs (by decide), hG.congr (fun i j _ _ => hf i j), grid_keepR h.R h.L hk h.sep, h.nL, h.nR, h.ne, h.sep, ba, h.bB, hb, h.geq⟩
theorem IS.rowsR (h : IS w0 W n gf gq gs gL cL gR cR rL rR A B) {f : Nat → Nat → Int} {B' : Mx} (hG : Grid w0.heap.size W' (.slice (some ⟨gR, 0, none⟩) n cR) n (rR.map some) rR f) (hf : ∀ i j, f i j = toI B' i j) (bb : By2 B') (hk : KeepR rR W W') (hb : Below w0.heap.size w0 W') : IS w0 W' n gf gq gs gL cL gR cR rL rR A B' := by
 obtain ⟨cs, hcs, hok⟩ := h.tab
 exact ⟨⟨cs, keepR_blk h.R hk hcs (by decide), hok⟩, keepR_blk h.R hk h.bq (by decide), keepR_blk h.R hk h.bs (by decide), grid_keepR h.L h.R hk (fun p hp q hq he => h.sep q hq p hp he.symm), hG.congr (fun i j _ _ => hf i j), h.nL, h.nR, h.ne, h.sep, h.bA, bb, hb, h.geq⟩
theorem swapL_mem {a b : Nat} {rs : List (Nat × Nat)} (ha : a < rs.length) (hb : b < rs.length) {p : Nat × Nat} (hp : p ∈ swapL a b rs) : p ∈ rs := by
 obtain ⟨i, hi⟩ := List.mem_iff_getElem?.1 hp
 rw [swapL_get ha hb] at hi
 split at hi
 ·exact List.mem_of_getElem? hi
 ·split at hi <;> exact List.mem_of_getElem? hi
theorem IS.swL (h : IS w0 W n gf gq gs gL cL gR cR rL rR A B) {a b : Nat} (ha : a < n) (hb : b < n) (hG : Grid w0.heap.size W' (.slice (some ⟨gL, 0, none⟩) n cL) n ((swapL a b rL).map some) (swapL a b rL) (swapI a b (toI A))) (hk : KeepBut W W' gL none) (hbl : Below w0.heap.size w0 W') : IS w0 W' n gf gq gs gL cL gR cR (swapL a b rL) rR (swapR a b A) B := by
 obtain ⟨cs, hcs, hok⟩ := h.tab
 have hn := h.nL
 exact ⟨⟨cs, keepB_blk h.L hk hcs (by decide), hok⟩, keepB_blk h.L hk h.bq (by decide), keepB_blk h.L hk h.bs (by decide), hG.congr (fun i j _ _ => by unfold swapI toI swapR; split; rfl; split <;> rfl), grid_keepB h.R h.L hk (Ne.symm h.ne), by rw [swapL_len]; exact hn, h.nR, h.ne, fun p hp => h.sep p (swapL_mem (by omega) (by omega) hp), (swap_op ha hb).by_ A h.bA, h.bB, hbl, h.geq⟩
theorem IS.swR (h : IS w0 W n gf gq gs gL cL gR cR rL rR A B) {a b : Nat} (ha : a < n) (hb : b < n) (hG : Grid w0.heap.size W' (.slice (some ⟨gR, 0, none⟩) n cR) n ((swapL a b rR).map some) (swapL a b rR) (swapI a b (toI B))) (hk : KeepBut W W' gR none) (hbl : Below w0.heap.size w0 W') : IS w0 W' n gf gq gs gL cL gR cR rL (swapL a b rR) A (swapR a b B) := by
 obtain ⟨cs, hcs, hok⟩ := h.tab
 have hn := h.nR
 exact ⟨⟨cs, keepB_blk h.R hk hcs (by decide), hok⟩, keepB_blk h.R hk h.bq (by decide), keepB_blk h.R hk h.bs (by decide), grid_keepB h.L h.R hk h.ne, hG.congr (fun i j _ _ => by unfold swapI toI swapR; split; rfl; split <;> rfl), h.nL, by rw [swapL_len]; exact hn, h.ne, fun p hp q hq => h.sep p hp q (swapL_mem (by omega) (by omega) hq), h.bA, (swap_op ha hb).by_ B h.bB, hbl, h.geq⟩
end
/-- The elimination of column c, rows below i done. -/
def elimK (c : Nat) (x : Nat → Nat) (i : Nat) (A : Mx) : Mx := fun r j => if r < i then elimR c x A r j else A r j
theorem elimK_zero (c : Nat) (x : Nat → Nat) (A : Mx) : elimK c x 0 A = A := by funext r j; simp [elimK]
theorem elimK_by {c : Nat} {x : Nat → Nat} {A : Mx} (h : By2 A) (i : Nat) : By2 (elimK c x i A) := fun r j => by
 unfold elimK elimR; split
 ·split; exact h _ _; exact xor_lt (h _ _) (mul_lt _ _)
 ·exact h _ _
theorem elimK_skip {c : Nat} {x : Nat → Nat} {A : Mx} {i : Nat} (h : i = c ∨ x i = 0) : elimK c x (i + 1) A = elimK c x i A := by
 funext r j
 unfold elimK
 by_cases e : r = i
 ·subst e
  rw [if_pos (by omega), if_neg (by omega)]
  unfold elimR
  rcases h with h | h
  ·rw [if_pos h]
  ·split
   ·rfl
   ·rw [h, zero_mul]; exact Nat.xor_zero _
 ·by_cases e2 : r < i
  ·rw [if_pos (by omega), if_pos e2]
  ·rw [if_neg (by omega), if_neg e2]
theorem elimK_self {c : Nat} {x : Nat → Nat} {A : Mx} {i j : Nat} : elimK c x i A c j = A c j := by unfold elimK elimR; split; rw [if_pos rfl]; rfl
theorem elimK_at {c : Nat} {x : Nat → Nat} {A : Mx} {i j : Nat} : elimK c x i A i j = A i j := by unfold elimK; rw [if_neg (by omega)]
theorem elimK_add {c : Nat} {x : Nat → Nat} {A : Mx} {i : Nat} (h : i ≠ c) (hA : By2 A) (r j : Nat) : addI i c ((x i : Nat) : Int) (toI (elimK c x i A)) r j = toI (elimK c x (i + 1) A) r j := by
 have hb := elimK_by (c := c) (x := x) hA i
 unfold addI
 by_cases e : r = i
 ·rw [if_pos e]
  have h1 : Byte (toI (elimK c x i A) i j) := toI_by hb i j
  have h2 : Byte (mulI ((x i : Nat) : Int) (toI (elimK c x i A) c j)) := byte_mul _ _
  rw [(byte_xor h1 h2).2, e]
  unfold toI mulI
  rw [elimK_at, elimK_self]
  simp only [Int.toNat_natCast]
  rw [show elimK c x (i + 1) A i j = A i j ^^^ mulN (x i) (A c j) from by unfold elimK elimR; rw [if_pos (by omega), if_neg h]]
 ·rw [if_neg e]
  unfold toI elimK
  by_cases e2 : r < i
  ·rw [if_pos e2, if_pos (by omega)]
  ·rw [if_neg e2, if_neg (by omega)]
theorem scale_toI {c b : Nat} {A : Mx} (i j : Nat) : scaleI c ((b : Nat) : Int) (toI A) i j = toI (scaleR c b A) i j := by
 show scaleI c ((b : Nat) : Int) (toI A) i j = ((if i = c then mulN b (A c j) else A i j : Nat) : Int)
 unfold scaleI toI mulI
 split
 ·simp only [Int.toNat_natCast]
 ·rfl
theorem gj_stay {n : Nat} {M : Mx} {c : Nat} (h : gj n M c = none) : ∀ d, gj n M (c + d) = none
 |0 => h
 |d + 1 => by rw [← Nat.add_assoc, gj, gj_stay h d]; rfl
def invV (r c : Int) (s : ByteArray) : MR :=
 if okM r c s ∧ r = c then (match gj c.toNat (entN c.toNat s) c.toNat with | some q => (c, c, cellsOf c.toNat c.toNat (toI q.2), 0) | none => errM 20) else errM 4
theorem divI_inv {a : Nat} (h : a ≠ 0) : divI 1 (a : Int) = ((inv1 a : Nat) : Int) := by
 unfold divI divN inv1
 simp only [Int.toNat_natCast]
 rw [if_neg h, if_neg (by decide)]
 rfl
end Go.Proofs.Ytoghhpkmficnmaa.Al

/- matrix.Inverse by its contract. -/
namespace Go.Proofs.Ytoghhpkmficnmaa.Al
open Go.RowKit Go.Proofs.Ytoghhpkmficnmaa.GfMath Go.Proofs.Ytoghhpkmficnmaa.GfRef Go.Proofs.Ytoghhpkmficnmaa.Base Go.Proofs.Ytoghhpkmficnmaa.Bytes Go.Proofs.Ytoghhpkmficnmaa.Grid Go.Proofs.YtoghhpkmficnmaaW.PrintWords Go.Proofs.YtoghhpkmficnmaaW.PrintLast Go.Proofs.YtoghhpkmficnmaaW.PrintMore
set_option linter.unusedVariables false
set_option linter.unusedSimpArgs false
set_option maxHeartbeats 8000000 in
set_option maxRecDepth 100000 in
theorem inv_bad (r c : Int) (s : ByteArray) (w : World) (h : ¬ (okM r c s ∧ r = c)) :
  Calls Try.prog 26 #[.agg #[.int .i64 r, .int .i64 c, .string s]] w fun e w' => e = .returned (mrV (errM 4)) ∧ Below w.heap.size w w' := by
 by_cases h1 : okM r c s
 ·have h2 : r ≠ c := fun e => h ⟨h1, e⟩
  have h4 : chkE r c s = 0 := if_pos h1
  have H4 := Aside0.mk h4
  have n1 : (r == c) = false := beq_eq_false_iff_ne.2 h2
  have n2 : (r != c) = true := bne_iff_ne.2 h2
  clear h h1 h2 h4
  go_enter Try.func26, Try.ntmps26
  go_wp2_with (first | ((with_reducible refine gate_dst (N := 1) rfl ?_); refine box_event ?hg (N := 1) ?hd (cs := #[.int .i64 r, .int .i64 c, .string s]) (t := 24) ?hr ?_; (case hd => rfl); (case hg => rfl); (case hr => first | (go_simp; done) | (go_simp; rfl)); intro gb hg w1 hbox hb; have f0 : w1.cell? ⟨gb, 0, none⟩ = some (.int .i64 r) := (blk_cell hbox 0).trans rfl; have f1 : w1.cell? ⟨gb, 1, none⟩ = some (.int .i64 c) := (blk_cell hbox 1).trans rfl; have f2 : w1.cell? ⟨gb, 2, none⟩ = some (.string s) := (blk_cell hbox 2).trans rfl; have HBX := Aside0.mk hbox; have HB1 := Aside0.mk hb; clear hg hbox hb) | ((with_reducible refine gate_dst (N := 2) rfl ?_); refine box_event ?hg (N := 2) ?hd (cs := #[.int .i64 0, .int .i64 0, .string ⟨#[]⟩]) (t := 24) ?hr ?_; (case hd => rfl); (case hg => rfl); (case hr => first | (go_simp; done) | (go_simp; rfl)); intro gq hg w2 hbox hb; have HQ := Aside0.mk (show w.heap.size ≤ gq from by have := HB1.out.size; omega); have HQX := Aside0.mk hbox; have HB2 := Aside0.mk (below_step HB1.out hb); have hbx := blk_below HBX.out hb; have f0 : w2.cell? ⟨gb, 0, none⟩ = some (.int .i64 r) := (blk_cell hbx 0).trans rfl; have f1 : w2.cell? ⟨gb, 1, none⟩ = some (.int .i64 c) := (blk_cell hbx 1).trans rfl; have f2 : w2.cell? ⟨gb, 2, none⟩ = some (.string s) := (blk_cell hbx 2).trans rfl; have HBX2 := Aside0.mk hbx; clear hg hbox hb hbx) | (go_at_call 18; refine (check_calls r c s _).mono ?_; rintro e w3 ⟨rfl, hb⟩; rw [H4.out]; have hq := blk_below HQX.out hb; have g0 : w3.cell? ⟨gb, 0, none⟩ = some (.int .i64 r) := (blk_cell (blk_below HBX2.out hb) 0).trans rfl; have g1 : w3.cell? ⟨gb, 1, none⟩ = some (.int .i64 c) := (blk_cell (blk_below HBX2.out hb) 1).trans rfl; have q0 : w3.cell? ⟨gq, 0, none⟩ = some (.int .i64 0) := (blk_cell hq 0).trans rfl; have q1 : w3.cell? ⟨gq, 1, none⟩ = some (.int .i64 0) := (blk_cell hq 1).trans rfl; have q2 : w3.cell? ⟨gq, 2, none⟩ = some (.string ⟨#[]⟩) := (blk_cell hq 2).trans rfl; have z0 := blk_frozen hq 0; have z1 := blk_frozen hq 1; have z2 := blk_frozen hq 2; have HQ3 := Aside0.mk hq; have HB3 := Aside0.mk (below_step HB2.out hb); clear hq hb))
  exact mr_end 0 0 ⟨#[]⟩ 4 rfl rfl rfl HQ3.out (by kernel_rfl) ⟨rfl, below_set (below_set (below_set HB3.out HQ.out) HQ.out) HQ.out⟩
 ·have h4 : chkE r c s = 4 := if_neg h1
  have H4 := Aside0.mk h4
  clear h h1 h4
  go_enter Try.func26, Try.ntmps26
  go_wp2_with (first | ((with_reducible refine gate_dst (N := 1) rfl ?_); refine box_event ?hg (N := 1) ?hd (cs := #[.int .i64 r, .int .i64 c, .string s]) (t := 24) ?hr ?_; (case hd => rfl); (case hg => rfl); (case hr => first | (go_simp; done) | (go_simp; rfl)); intro gb hg w1 hbox hb; have f0 : w1.cell? ⟨gb, 0, none⟩ = some (.int .i64 r) := (blk_cell hbox 0).trans rfl; have f1 : w1.cell? ⟨gb, 1, none⟩ = some (.int .i64 c) := (blk_cell hbox 1).trans rfl; have f2 : w1.cell? ⟨gb, 2, none⟩ = some (.string s) := (blk_cell hbox 2).trans rfl; have HBX := Aside0.mk hbox; have HB1 := Aside0.mk hb; clear hg hbox hb) | ((with_reducible refine gate_dst (N := 2) rfl ?_); refine box_event ?hg (N := 2) ?hd (cs := #[.int .i64 0, .int .i64 0, .string ⟨#[]⟩]) (t := 24) ?hr ?_; (case hd => rfl); (case hg => rfl); (case hr => first | (go_simp; done) | (go_simp; rfl)); intro gq hg w2 hbox hb; have HQ := Aside0.mk (show w.heap.size ≤ gq from by have := HB1.out.size; omega); have HQX := Aside0.mk hbox; have HB2 := Aside0.mk (below_step HB1.out hb); have hbx := blk_below HBX.out hb; have f0 : w2.cell? ⟨gb, 0, none⟩ = some (.int .i64 r) := (blk_cell hbx 0).trans rfl; have f1 : w2.cell? ⟨gb, 1, none⟩ = some (.int .i64 c) := (blk_cell hbx 1).trans rfl; have f2 : w2.cell? ⟨gb, 2, none⟩ = some (.string s) := (blk_cell hbx 2).trans rfl; have HBX2 := Aside0.mk hbx; clear hg hbox hb hbx) | (go_at_call 18; refine (check_calls r c s _).mono ?_; rintro e w3 ⟨rfl, hb⟩; rw [H4.out]; have hq := blk_below HQX.out hb; have q0 : w3.cell? ⟨gq, 0, none⟩ = some (.int .i64 0) := (blk_cell hq 0).trans rfl; have q1 : w3.cell? ⟨gq, 1, none⟩ = some (.int .i64 0) := (blk_cell hq 1).trans rfl; have q2 : w3.cell? ⟨gq, 2, none⟩ = some (.string ⟨#[]⟩) := (blk_cell hq 2).trans rfl; have z0 := blk_frozen hq 0; have z1 := blk_frozen hq 1; have z2 := blk_frozen hq 2; have HQ3 := Aside0.mk hq; have HB3 := Aside0.mk (below_step HB2.out hb); clear hq hb))
  exact mr_end 0 0 ⟨#[]⟩ 4 rfl rfl rfl HQ3.out (by kernel_rfl) ⟨rfl, below_set (below_set (below_set HB3.out HQ.out) HQ.out) HQ.out⟩
def rg26_4_T : Bool × List (List Nat × List Nat) := (true, [([], []), ([0], [0]), ([], []), ([2], [2]), ([3, 1], [3]), ([1, 4, 0, 1], [1]), ([4, 5, 0, 1, 2, 3, 4, 5], [4])])
def rg26_4_B : List Nat := [0, 1, 0, 4, 15, 31, 63]
theorem rg26_4_tab : rtab .any (opsOf Try.f26 4) = rg26_4_T := by kernel_rfl
theorem rg26_4_bits : waitsOk rg26_4_T.2 rg26_4_B = true := by kernel_rfl
set_option maxHeartbeats 8000000 in
set_option maxRecDepth 100000 in
theorem inv_good (n : Nat) (s : ByteArray) (w : World) (h : okM n n s) (R : MR) (hR : invV n n s = R) :
  Calls Try.prog 26 #[.agg #[.int .i64 n, .int .i64 n, .string s]] w fun e w' => e = .returned (mrV R) ∧ Below w.heap.size w w' := by
 have h4 : chkE n n s = 0 := if_pos h
 have H4 := Aside0.mk h4
 have HM := Aside0.mk h
 have hn1 : 1 ≤ n := by have := h.1; omega
 have hn2 : n ≤ 255 := by have := h.2.1; omega
 have hss : s.size = n * n := by have := h.2.2.2.2; rw [← Int.natCast_mul] at this; omega
 have HSS := Aside0.mk hss
 have hR1 : (match gj n (entN n s) n with | some q => ((n : Int), (n : Int), cellsOf n n (toI q.2), (0 : Int)) | none => errM 20) = R := by
  rw [← hR]; unfold invV; rw [if_pos ⟨h, rfl⟩, Int.toNat_natCast]; first | done | rfl
 have HR := Aside0.mk hR1
 have d1 : ((n : Int) == (n : Int)) = true := by simp
 have d2 : ((n : Int) != (n : Int)) = false := by simp
 clear h h4 hR hss hR1
 go_enter Try.func26, Try.ntmps26
 go_wp2_with (first | ((with_reducible refine gate_dst (N := 1) rfl ?_); refine box_event ?hg (N := 1) ?hd (cs := #[.int .i64 n, .int .i64 n, .string s]) (t := 24) ?hr ?_; (case hd => rfl); (case hg => rfl); (case hr => first | (go_simp; done) | (go_simp; rfl)); intro gb hg w1 hbox hb; have f0 : w1.cell? ⟨gb, 0, none⟩ = some (.int .i64 n) := (blk_cell hbox 0).trans rfl; have f1 : w1.cell? ⟨gb, 1, none⟩ = some (.int .i64 n) := (blk_cell hbox 1).trans rfl; have f2 : w1.cell? ⟨gb, 2, none⟩ = some (.string s) := (blk_cell hbox 2).trans rfl; have HBX := Aside0.mk hbox; have HB1 := Aside0.mk hb; clear hg hbox hb) | ((with_reducible refine gate_dst (N := 2) rfl ?_); refine box_event ?hg (N := 2) ?hd (cs := #[.int .i64 0, .int .i64 0, .string ⟨#[]⟩]) (t := 24) ?hr ?_; (case hd => rfl); (case hg => rfl); (case hr => first | (go_simp; done) | (go_simp; rfl)); intro gq hg w2 hbox hb; have HQ := Aside0.mk (show w.heap.size ≤ gq from by have := HB1.out.size; omega); have HQX := Aside0.mk hbox; have HB2 := Aside0.mk (below_step HB1.out hb); have hbx := blk_below HBX.out hb; have f0 : w2.cell? ⟨gb, 0, none⟩ = some (.int .i64 n) := (blk_cell hbx 0).trans rfl; have f1 : w2.cell? ⟨gb, 1, none⟩ = some (.int .i64 n) := (blk_cell hbx 1).trans rfl; have f2 : w2.cell? ⟨gb, 2, none⟩ = some (.string s) := (blk_cell hbx 2).trans rfl; have HBX2 := Aside0.mk hbx; clear hg hbox hb hbx) | (go_at_call 18; refine (check_calls n n s _).mono ?_; rintro e w3 ⟨rfl, hb⟩; rw [H4.out]; have HQ3 := Aside0.mk (blk_below HQX.out hb); have hbx3 := blk_below HBX2.out hb; have g0 : w3.cell? ⟨gb, 0, none⟩ = some (.int .i64 n) := (blk_cell hbx3 0).trans rfl; have g1 : w3.cell? ⟨gb, 1, none⟩ = some (.int .i64 n) := (blk_cell hbx3 1).trans rfl; have HBX3 := Aside0.mk hbx3; have HB3 := Aside0.mk (below_step HB2.out hb); clear hb hbx3) | (go_at_call 28; refine (gf_New.calls _).mono ?_; rintro e w4 ⟨gf, rfl, hge, ht, hb⟩; have HT4 := Aside0.mk ht; have HQ4 := Aside0.mk (blk_below HQ3.out hb); have HBX4 := Aside0.mk (blk_below HBX3.out hb); have HB4 := Aside0.mk (below_step HB3.out hb); clear hge ht hb))
 have HX4 := HBX4.out
 refine start_ (n := 7) (S := fun w' => w'.heap[gb]? = some (.cells #[.int .i64 n, .int .i64 n, .string s] 24 (0, 0))) (ds := []) #[false, false, false, false, false, false, false] (by kernel_rfl) rfl rfl HX4 (fun hHeld => ?_)
 refine with_tabW rg26_4_tab rg26_4_bits (fun HT_ HW_ => ?_)
 obtain ⟨W1, hW1⟩ : ∃ W1, W1 = w4.drew := ⟨_, rfl⟩
 have HB5 := Aside0.mk (show Below w.heap.size w W1 from by rw [hW1]; exact below_drew1 HB4.out)
 have HT5 := Aside0.mk (show Tab W1 gf from by rw [hW1]; exact HT4.out.below (below_drew (Below.refl _ _)))
 have HQ5 := Aside0.mk (show W1.heap[gq]? = some (.cells #[.int .i64 0, .int .i64 0, .string ⟨#[]⟩] 24 (0, 0)) from by rw [hW1]; exact HQ4.out)
 rw [← hW1] at hHeld ⊢
 clear hW1
 refine take_ (i := 0) (N := some 28) (v := ?_) (a' := ?_) #[true, false, false, false, false, false, false] rfl rfl (take_ofW HT_.out HW_.out (by kernel_rfl)) (fun _ _ _ h => h) (Or.inl ⟨by rfl, ?_⟩) hHeld ?_ ?_
 rotate_left
 ·rintro w' s0
  have y0 : w'.cell? ⟨gb, 0, none⟩ = some (.int .i64 n) := (blk_cell s0 0).trans rfl
  have y1 : w'.cell? ⟨gb, 1, none⟩ = some (.int .i64 n) := (blk_cell s0 1).trans rfl
  have y2 : w'.cell? ⟨gb, 2, none⟩ = some (.string s) := (blk_cell s0 2).trans rfl
  go_simp
  with_reducible rfl
 rotate_left
 ·simp only [Act.put, List.setIfInBounds_toArray, List.set_cons_zero, List.set_cons_succ, i64_w, i32_w]
  rfl
 refine pure_ (i := 2) (N := some 30) (v := ?_) (a' := ?_) #[true, false, true, false, false, false, false] rfl rfl (any_of HT_.out (by kernel_rfl)) (fun _ _ _ h => h) (Or.inl ⟨by rfl, ?_⟩) ?_ ?_
 rotate_left
 ·intro w'
  go_simp
  with_reducible rfl
 rotate_left
 ·simp only [Act.put, List.setIfInBounds_toArray, List.set_cons_zero, List.set_cons_succ, i64_w, i32_w]
  rfl
 refine take_ (i := 3) (N := some 31) (v := ?_) (a' := ?_) #[true, false, true, true, false, false, false] rfl rfl (take_ofW HT_.out HW_.out (by kernel_rfl)) (fun _ _ _ h => h) (Or.inl ⟨by rfl, ?_⟩) hHeld ?_ ?_
 rotate_left
 ·rintro w' s0
  have y0 : w'.cell? ⟨gb, 0, none⟩ = some (.int .i64 n) := (blk_cell s0 0).trans rfl
  go_simp
  with_reducible rfl
 rotate_left
 ·simp only [Act.put, List.setIfInBounds_toArray, List.set_cons_zero, List.set_cons_succ, i64_w, i32_w]
  rfl
 refine one_ (i := 1) (N := some 29) #[true, true, true, true, false, false, false] rfl rfl (one_of HT_.out (by kernel_rfl)) (by decide) (fun K hK => ?_)
 (refine goes_ Try.func33 (by kernel_rfl) rfl #[.agg #[.int .i64 n, .int .i64 n, .string s]] (by rfl) rfl rfl (by (try simp only [List.map_toArray, List.map_cons, List.map_nil]); first | done | rfl) ?_; refine (of_calls n n s _ hn1 hn2 hn1 hn2 HSS.out).mono ?_; rintro e w6 ⟨vL, rL, rfl, hrl, hG, hb⟩; refine ⟨_, rfl, ?_⟩; obtain ⟨gL, cL, egL, _, _, _, _⟩ := hG.form (by simp only [List.length_map]; omega); rw [List.length_map, hrl] at egL; subst egL; have HL6 := Aside0.mk (hG.lower HB5.out.size); have HRL := Aside0.mk hrl; have HT6 := Aside0.mk (HT5.out.below hb); have HQ6 := Aside0.mk (blk_below HQ5.out hb); have HB6 := Aside0.mk (below_step HB5.out hb); have hS6 := blk_below hHeld hb; clear hrl hG hb)
 refine hK.out _ _ hS6 (fun hHeld => ?_)
 clear hK K
 try simp only [Act.put, List.setIfInBounds_toArray, List.set_cons_zero, List.set_cons_succ, i64_w, i32_w]
 refine one_ (i := 4) (N := some 32) #[true, true, true, true, true, false, false] rfl rfl (one_of HT_.out (by kernel_rfl)) (by decide) (fun K hK => ?_)
 (refine goes_ Try.func29 (by kernel_rfl) rfl #[.int .i64 n] (by rfl) rfl rfl (by (try simp only [List.map_toArray, List.map_cons, List.map_nil]); first | done | rfl) ?_; refine (one_calls n _ hn1 hn2).mono ?_; rintro e w7 ⟨gR, cR, rR, rfl, hrl, hG, hb⟩; refine ⟨_, rfl, ?_⟩; have HR7 := Aside0.mk hG; have HRR := Aside0.mk hrl; have HL7 := Aside0.mk (HL6.out.below hb); have HLT := Aside0.mk HL6.out.lt; have HLO := Aside0.mk (Kd.R_typed HL6.out.out gL (by simp [Value.ownBlock])); have HT7 := Aside0.mk (HT6.out.below hb); have HQ7 := Aside0.mk (blk_below HQ6.out hb); have HB7 := Aside0.mk (below_step HB6.out hb); have HZ7 := Aside0.mk HB6.out.size; have hS7 := blk_below hS6 hb; clear hrl hG hb)
 refine hK.out _ _ hS7 (fun hHeld => ?_)
 clear hK K
 try simp only [Act.put, List.setIfInBounds_toArray, List.set_cons_zero, List.set_cons_succ, i64_w, i32_w]
 refine pure_ (i := 5) (N := some 5) (v := ?_) (a' := ?_) #[true, true, true, true, true, true, false] rfl rfl (any_of HT_.out (by kernel_rfl)) (fun _ _ _ h => h) (Or.inl ⟨by rfl, ?_⟩) ?_ ?_
 rotate_left
 ·intro w'
  go_simp
  with_reducible rfl
 rotate_left
 ·simp only [Act.put, List.setIfInBounds_toArray, List.set_cons_zero, List.set_cons_succ, i64_w, i32_w]
  rfl
 refine pure_ (i := 6) (N := some 6) (v := ?_) (a' := ?_) #[true, true, true, true, true, true, true] rfl rfl (any_of HT_.out (by kernel_rfl)) (fun _ _ _ h => h) (Or.inl ⟨by rfl, ?_⟩) ?_ ?_
 rotate_left
 ·intro w'
  go_simp
  with_reducible rfl
 rotate_left
 ·simp only [Act.put, List.setIfInBounds_toArray, List.set_cons_zero, List.set_cons_succ, i64_w, i32_w]
  rfl
 refine done_ (done_of HT_.out (by kernel_rfl)) ?_
 clear hHeld hS6 hS7 HX4
 go_upto_region 6 with (fail)
 have HIS : IS w (w7.alloc (.cells #[fv gL n cL, fv gR n cR] 65)) n gf gq w7.heap.size gL cL gR cR rL rR (entN n s) Ix := by
  have hb := below_alloc (Below.refl w7.heap.size w7) (.cells #[fv gL n cL, fv gR n cR] 65)
  have hgR := Kd.R_base HR7.out.out gR (by simp [Value.ownBlock])
  obtain ⟨cells, hcL⟩ := HLO.out
  have hgL := blk_lt hcL
  refine ⟨HT7.out.below hb, blk_below HQ7.out hb, blk_new w7 _, (HL7.out.below hb).congr (fun i j _ _ => (toI_ent n s i j).symm), ((HR7.out.lower HZ7.out).below hb).congr (fun i j _ _ => (toI_Ix i j).symm), HRL.out, HRR.out, by omega, fun p hp q hq he => ?_, entN_by n s, Ix_by, below_step HB7.out hb, HQ.out⟩
  obtain ⟨i, hi⟩ := List.mem_iff_getElem?.1 hp
  obtain ⟨j, hj⟩ := List.mem_iff_getElem?.1 hq
  have h1 := HLT.out i p hi
  have h2 := (HR7.out.row j q hj).2
  omega
 obtain ⟨gs, hgs⟩ : ∃ g, g = w7.heap.size := ⟨_, rfl⟩
 rw [← hgs] at HIS ⊢
 have HIS0 := Aside0.mk HIS
 clear HIS hgs
 change Code.wp _ _ _ _ (w7.alloc (.cells #[fv gL n cL, fv gR n cR] 65))
 generalize w7.alloc (.cells #[fv gL n cL, fv gR n cR] 65) = W8 at HIS0 ⊢
 clear HL7 HR7 HT7 HQ7 HB7 HL6 HRL HT6 HQ6 HB6 HRR HLT HLO HZ7 HT5 HQ5 HB5 HT4 HQ4 HB4 HBX4 HQ3 HBX3 HB3
 go_wp2
 go_loopw [8, 9, 11, 12, 13, 14, 15, 40] (fun v8 v9 v11 v12 v13 v14 v15 v40 wr => ∃ (c : Nat) (rL rR : List (Nat × Nat)) (q : Mx × Mx), v40 = .int .i64 c ∧ c ≤ n ∧ Aside0 (gj n (entN n s) c = some q) ∧ Aside0 (IS w wr n gf gq gs gL cL gR cR rL rR q.1 q.2)) (fun _ _ _ _ _ _ _ v40 _ => n - (intOf v40).toNat)
 case atStart => exact ⟨0, rL, rR, (entN n s, Ix), rfl, Nat.zero_le _, ⟨rfl⟩, HIS0⟩
 case round =>
  obtain ⟨c, rL, rR, q, rfl, hc, HJ, HI⟩ := hrel
  obtain ⟨wo, rfl⟩ : ∃ wo : World, wo = wr := ⟨_, rfl⟩
  clear HIS0
  by_cases hlt : c < n
  ·go_wp2
   go_loop [9] (fun v9 => ∃ p : Nat, v9 = .int .i64 p ∧ c ≤ p ∧ p ≤ n ∧ Aside0 (∀ i, c ≤ i → i < p → q.1 i c = 0)) (fun v9 => n - (intOf v9).toNat)
   case atStart => exact ⟨c, rfl, Nat.le_refl _, hc, ⟨fun i h1 h2 => absurd h1 (by omega)⟩⟩
   case round =>
    obtain ⟨p, rfl, hp1, hp2, HZ⟩ := hrel
    by_cases hpn : p < n
    ·obtain ⟨rb, cb, hrb, hob, hrow⟩ := gcell HI.out.L HI.out.nL hpn
     have hcell := hrow.cell hlt
     have HRW := Aside0.mk hrow
     have HRB := Aside0.mk hrb
     have d1 : decide ((p : Int) < (n : Int)) = true := decide_eq_true (by omega)
     have d2 : decide (p < n) = true := decide_eq_true hpn
     have e1 : decide ((c : Int) < (n : Int)) = true := decide_eq_true (by omega)
     have e2 : decide (c < n) = true := decide_eq_true hlt
     clear hrow hrb
     by_cases hz : q.1 p c = 0
     ·rw [show toI q.1 p c = 0 from by unfold toI; rw [hz]; rfl] at hcell
      have HZ' : Aside0 (∀ i, c ≤ i → i < p + 1 → q.1 i c = 0) := ⟨fun i h1 h2 => by
       by_cases e : i = p
       ·rw [e]; exact hz
       ·exact HZ.out i h1 (by omega)⟩
      clear hz
      go_wp2
      go_round
      case rel => exact ⟨p + 1, by go_num, by omega, hpn, HZ'⟩
      case measure => simp [intOf]; omega
     ·have hz1 : (toI q.1 p c == 0) = false := beq_eq_false_iff_ne.2 (by unfold toI; omega)
      have HNZ := Aside0.mk hz
      clear hz
      have HPV : Aside0 (piv q.1 c (n - c) c = p) := ⟨(piv_uniq hp1 (by omega) HZ.out (fun _ => HNZ.out)).symm⟩
      go_wp2
      go_loopw [11, 67] (fun v11 v67 wr => ∃ (k : Nat) (rL1 rR1 : List (Nat × Nat)) (A1 B1 : Mx), v67 = .int .i64 k ∧ k ≤ 2 ∧ Aside0 (IS w wr n gf gq gs gL cL gR cR rL1 rR1 A1 B1) ∧ Aside0 (A1 = if 1 ≤ k then swapR c p q.1 else q.1) ∧ Aside0 (B1 = if 2 ≤ k then swapR c p q.2 else q.2)) (fun _ v67 _ => 2 - (intOf v67).toNat)
      case atStart => exact ⟨0, rL, rR, q.1, q.2, rfl, by omega, HI, ⟨rfl⟩, ⟨rfl⟩⟩
      case round =>
       obtain ⟨k, rL1, rR1, A1, B1, rfl, hk, HI1, HA1, HB1'⟩ := hrel
       clear hob hcell
       by_cases hk2 : k < 2
       ·have c1 : (k : Int) < 2 := by omega
        have c2 : (0 : Int) ≤ (k : Int) := by omega
        by_cases hk0 : k = 0
        ·have hcl : wr.cell? ⟨gs, k, none⟩ = some (.func (.func 38) #[.slice (some ⟨gL, 0, none⟩) n cL] #[]) := (blk_cell HI1.out.bs k).trans (by rw [hk0]; rfl)
         have HK0 := Aside0.mk hk0
         clear hk0
         go_wp2_with (go_at_call 38; refine (swap_calls w gL cL n n rL1 (toI A1) c p _ HI1.out.L HI1.out.nL hlt hpn hn2 HI1.out.bel).mono ?_; rintro e w' ⟨rfl, hG, hkb, hb⟩; have HI2 := Aside0.mk (HI1.out.swL hlt hpn hG hkb hb); clear hG hkb hb)
         go_roundw
         case rel =>
          have h0 := HK0.out
          refine ⟨k + 1, _, _, _, _, by go_num, by omega, HI2, ⟨?_⟩, ⟨?_⟩⟩
          ·rw [HA1.out, if_neg (by omega), if_pos (by omega)]
          ·rw [HB1'.out, if_neg (by omega), if_neg (by omega)]
         case measure => simp [intOf]; omega
        ·have hcl : wr.cell? ⟨gs, k, none⟩ = some (.func (.func 38) #[.slice (some ⟨gR, 0, none⟩) n cR] #[]) := (blk_cell HI1.out.bs k).trans (by rw [show k = 1 by omega]; rfl)
         have HK0 := Aside0.mk hk0
         clear hk0
         go_wp2_with (go_at_call 38; refine (swap_calls w gR cR n n rR1 (toI B1) c p _ HI1.out.R HI1.out.nR hlt hpn hn2 HI1.out.bel).mono ?_; rintro e w' ⟨rfl, hG, hkb, hb⟩; have HI2 := Aside0.mk (HI1.out.swR hlt hpn hG hkb hb); clear hG hkb hb)
         go_roundw
         case rel =>
          have h0 := HK0.out
          refine ⟨k + 1, _, _, _, _, by go_num, by omega, HI2, ⟨?_⟩, ⟨?_⟩⟩
          ·rw [HA1.out, if_pos (by omega), if_pos (by omega)]
          ·rw [HB1'.out, if_neg (by omega), if_pos (by omega)]
         case measure => simp [intOf]; omega
       ·have h2 : k = 2 := by omega
        have hA := HA1.out
        have hB := HB1'.out
        rw [if_pos (by omega)] at hA hB
        subst hA hB
        have HK2 := Aside0.mk h2
        have c1 : decide ((k : Int) < 2) = false := decide_eq_false (by omega)
        clear h2 HA1 HB1' hk
        obtain ⟨b, hb⟩ : ∃ b, b = inv1 (swapR c p q.1 c c) := ⟨_, rfl⟩
        have hnz : swapR c p q.1 c c ≠ 0 := by simp only [swapR, if_true]; exact HNZ.out
        have HDV : Aside0 (divI 1 (toI (swapR c p q.1) c c) = (b : Int)) := ⟨by rw [hb]; exact divI_inv hnz⟩
        have HBD := Aside0.mk hb
        have HBB : Aside0 (b < 256) := ⟨by rw [hb]; exact inv1_lt _⟩
        obtain ⟨rb2, cb2, hrb2, hob2, hrow2⟩ := gcell HI1.out.L HI1.out.nL hlt
        have hcell2 := hrow2.cell hlt
        clear hb hnz hrb2 hrow2
        go_wp2_with (first | (go_at_call 30; refine (gInv gf (toI (swapR c p q.1) c c) _ HI1.out.tab (toI_by HI1.out.bA c c)).mono ?_; rintro e w' ⟨rfl, nd, rfl⟩; rw [HDV.out]; have HI3 := Aside0.mk (HI1.out.drewN nd); clear HI1) | (go_at_call 39; refine (scale_calls w gf gL cL n n rL1 (toI (swapR c p q.1)) c b _ HI3.out.tab HI3.out.L HI3.out.nL hlt hn2 (by have := HBB.out; unfold Byte; omega) (toI_by HI3.out.bA) HI3.out.bel).mono ?_; rintro e w' ⟨rfl, hG, hkb, hbw⟩; have HI4 := Aside0.mk (HI3.out.rowsL hG (fun i j => scale_toI i j) ((scale_op hlt HBB.out).by_ _ HI3.out.bA) hkb hbw); clear HI3 hG hkb hbw) | (go_at_call 39; refine (scale_calls w gf gR cR n n rR1 (toI (swapR c p q.2)) c b _ HI4.out.tab HI4.out.R HI4.out.nR hlt hn2 (by have := HBB.out; unfold Byte; omega) (toI_by HI4.out.bB) HI4.out.bel).mono ?_; rintro e w' ⟨rfl, hG, hkb, hbw⟩; have HI5 := Aside0.mk (HI4.out.rowsR hG (fun i j => scale_toI i j) ((scale_op hlt HBB.out).by_ _ HI4.out.bB) hkb hbw); clear HI4 hG hkb hbw))
        obtain ⟨L2, hL2⟩ : ∃ L2, L2 = scaleR c b (swapR c p q.1) := ⟨_, rfl⟩
        obtain ⟨R2, hR2⟩ : ∃ R2, R2 = scaleR c b (swapR c p q.2) := ⟨_, rfl⟩
        have HI6 : Aside0 (IS w w' n gf gq gs gL cL gR cR rL1 rR1 (elimK c (fun r => L2 r c) 0 L2) (elimK c (fun r => L2 r c) 0 R2)) := ⟨by rw [elimK_zero, elimK_zero, hL2, hR2]; exact HI5.out⟩
        have HL2 := Aside0.mk hL2
        have HR2 := Aside0.mk hR2
        have BL2 : Aside0 (By2 L2) := ⟨by rw [hL2]; exact HI5.out.bA⟩
        have BR2 : Aside0 (By2 R2) := ⟨by rw [hR2]; exact HI5.out.bB⟩
        clear hL2 hR2 HI5 hob2 hcell2
        go_loopw [14, 15, 100] (fun v14 v15 v100 wr => ∃ i : Nat, v100 = .int .i64 i ∧ i ≤ n ∧ Aside0 (IS w wr n gf gq gs gL cL gR cR rL1 rR1 (elimK c (fun r => L2 r c) i L2) (elimK c (fun r => L2 r c) i R2))) (fun _ _ v100 _ => n - (intOf v100).toNat)
        case atStart => exact ⟨0, rfl, Nat.zero_le _, HI6⟩
        case round =>
         obtain ⟨i, rfl, hi, HI7⟩ := hrel
         clear HI6
         by_cases hin : i < n
         ·obtain ⟨rb3, cb3, hrb3, hob3, hrow3⟩ := gcell HI7.out.L HI7.out.nL hin
          have hcell3 := hrow3.cell hlt
          rw [show toI (elimK c (fun r => L2 r c) i L2) i c = ((L2 i c : Nat) : Int) from by unfold toI; rw [elimK_at]] at hcell3
          clear hrb3 hrow3
          have i1 : decide ((i : Int) < (n : Int)) = true := decide_eq_true (by omega)
          have i2 : decide (i < n) = true := decide_eq_true hin
          by_cases hic : i = c
          ·have j1 : ((i : Int) == (c : Int)) = true := by rw [hic]; simp
           have j2 : ((i : Int) != (c : Int)) = false := by rw [hic]; simp
           have j3 : (i == c) = true := by rw [hic]; simp
           have HI8 : Aside0 (IS w wr n gf gq gs gL cL gR cR rL1 rR1 (elimK c (fun r => L2 r c) (i + 1) L2) (elimK c (fun r => L2 r c) (i + 1) R2)) := ⟨by rw [elimK_skip (.inl hic), elimK_skip (.inl hic)]; exact HI7.out⟩
           clear hic
           go_wp2
           go_roundw
           case rel => exact ⟨i + 1, by go_num, hin, HI8⟩
           case measure => simp [intOf]; omega
          ·have j1 : ((i : Int) == (c : Int)) = false := beq_eq_false_iff_ne.2 (by omega)
           have j2 : ((i : Int) != (c : Int)) = true := bne_iff_ne.2 (by omega)
           have j3 : (i == c) = false := beq_eq_false_iff_ne.2 hic
           by_cases hx0 : L2 i c = 0
           ·have HI8 : Aside0 (IS w wr n gf gq gs gL cL gR cR rL1 rR1 (elimK c (fun r => L2 r c) (i + 1) L2) (elimK c (fun r => L2 r c) (i + 1) R2)) := ⟨by rw [elimK_skip (x := fun r => L2 r c) (.inr hx0), elimK_skip (x := fun r => L2 r c) (.inr hx0)]; exact HI7.out⟩
            rw [show ((L2 i c : Nat) : Int) = 0 from by rw [hx0]; rfl] at hcell3
            clear hic hx0
            go_wp2
            go_roundw
            case rel => exact ⟨i + 1, by go_num, hin, HI8⟩
            case measure => simp [intOf]; omega
           ·have k1 : (((L2 i c : Nat) : Int) == 0) = false := beq_eq_false_iff_ne.2 (by omega)
            have k2 : (((L2 i c : Nat) : Int) != 0) = true := bne_iff_ne.2 (by omega)
            have k3 : (L2 i c == 0) = false := beq_eq_false_iff_ne.2 hx0
            have HIC := Aside0.mk hic
            have HXB : Aside0 (Byte ((L2 i c : Nat) : Int)) := ⟨by have := BL2.out i c; unfold Byte; omega⟩
            clear hic hx0
            go_wp2_with (first | (go_at_call 40; refine (add_calls w gf gL cL n n rL1 (toI (elimK c (fun r => L2 r c) i L2)) i c ((L2 i c : Nat) : Int) _ HI7.out.tab HI7.out.L HI7.out.nL hlt hin HIC.out hn2 HXB.out (toI_by HI7.out.bA) HI7.out.bel).mono ?_; rintro e w' ⟨rfl, hG, hkb, hbw⟩; have HI8 := Aside0.mk (HI7.out.rowsL hG (fun a b => elimK_add (x := fun r => L2 r c) HIC.out BL2.out a b) (elimK_by BL2.out (i + 1)) hkb hbw); clear HI7 hG hkb hbw) | (go_at_call 40; refine (add_calls w gf gR cR n n rR1 (toI (elimK c (fun r => L2 r c) i R2)) i c ((L2 i c : Nat) : Int) _ HI8.out.tab HI8.out.R HI8.out.nR hlt hin HIC.out hn2 HXB.out (toI_by HI8.out.bB) HI8.out.bel).mono ?_; rintro e w' ⟨rfl, hG, hkb, hbw⟩; have HI9 := Aside0.mk (HI8.out.rowsR hG (fun a b => elimK_add (x := fun r => L2 r c) HIC.out BR2.out a b) (elimK_by BR2.out (i + 1)) hkb hbw); clear HI8 hG hkb hbw))
            go_roundw
            case rel => exact ⟨i + 1, by go_num, hin, HI9⟩
            case measure => simp [intOf]; omega
         ·obtain rfl : i = n := by omega
          have HEND : Aside0 (gj i (entN i s) (c + 1) = some (elimR c (fun r => L2 r c) L2, elimR c (fun r => L2 r c) R2) ∧ IS w wr i gf gq gs gL cL gR cR rL1 rR1 (elimR c (fun r => L2 r c) L2) (elimR c (fun r => L2 r c) R2)) := ⟨by
           refine ⟨?_, HI7.out.congr ((elim_op hlt (fun r => BL2.out r c)).by_ _ BL2.out) ((elim_op hlt (fun r => BL2.out r c)).by_ _ BR2.out) (fun r j hr _ => by unfold elimK; rw [if_pos hr]) (fun r j hr _ => by unfold elimK; rw [if_pos hr])⟩
           have e1 : L2 = stepL c p q.1 := by rw [HL2.out, HBD.out]; rfl
           have e2 : R2 = stepR c p q.1 q.2 := by rw [HR2.out, HBD.out]; rfl
           rw [gj, HJ.out, Option.bind_some, gstep, HPV.out, if_pos hpn, e1, e2]⟩
          clear HI7
          go_wp2
          go_roundw
          case rel => exact ⟨c + 1, rL1, rR1, _, by go_num, hlt, ⟨HEND.out.1⟩, ⟨HEND.out.2⟩⟩
          case measure => simp [intOf]; omega
    ·obtain rfl : p = n := by omega
     have HNO : Aside0 (errM 20 = R) := ⟨by
      have hpv : piv q.1 c (p - c) c = p := (piv_uniq hp1 (by omega) HZ.out (fun h => absurd h (by omega))).symm
      have hnone : gj p (entN p s) (c + 1) = none := by rw [gj, HJ.out, Option.bind_some, gstep, hpv, if_neg (by omega)]
      have := gj_stay hnone (p - (c + 1))
      rw [show c + 1 + (p - (c + 1)) = p by omega] at this
      have hr := HR.out
      rw [this] at hr
      exact hr⟩
     have d3 : decide ((p : Int) < (p : Int)) = false := decide_eq_false (by omega)
     have q0 : wo.cell? ⟨gq, 0, none⟩ = some (.int .i64 0) := (blk_cell HI.out.bq 0).trans rfl
     have q1 : wo.cell? ⟨gq, 1, none⟩ = some (.int .i64 0) := (blk_cell HI.out.bq 1).trans rfl
     have q2 : wo.cell? ⟨gq, 2, none⟩ = some (.string ⟨#[]⟩) := (blk_cell HI.out.bq 2).trans rfl
     have z0 := blk_frozen HI.out.bq 0
     have z1 := blk_frozen HI.out.bq 1
     have z2 := blk_frozen HI.out.bq 2
     go_wp2
     exact mr_end 0 0 ⟨#[]⟩ 20 rfl rfl rfl HI.out.bq (by kernel_rfl) ⟨by rw [← HNO.out]; rfl, below_set (below_set (below_set HI.out.bel HQ.out) HQ.out) HQ.out⟩
  ·obtain rfl : c = n := by omega
   have HE : Aside0 (((c : Int), (c : Int), cellsOf c c (toI q.2), (0 : Int)) = R) := ⟨by
    have hr := HR.out
    rw [HJ.out] at hr
    exact hr⟩
   have HRW := Aside0.mk (HI.out.R.rows HI.out.nR)
   have HCP := Aside0.mk (Kd.R_reads' HI.out.R.out).2.1
   go_wp2_with (go_at_call 31; refine (matrix_calls gR c c cR (toI q.2) _ hn1 hn2 hn1 hn2 HRW.out HCP.out (fun i j _ _ => toI_by HI.out.bB i j)).mono ?_; rintro e w9 ⟨rfl, hb⟩; have hq := blk_below HI.out.bq hb; have q0 : w9.cell? ⟨gq, 0, none⟩ = some (.int .i64 0) := (blk_cell hq 0).trans rfl; have q1 : w9.cell? ⟨gq, 1, none⟩ = some (.int .i64 0) := (blk_cell hq 1).trans rfl; have q2 : w9.cell? ⟨gq, 2, none⟩ = some (.string ⟨#[]⟩) := (blk_cell hq 2).trans rfl; have z0 := blk_frozen hq 0; have z1 := blk_frozen hq 1; have z2 := blk_frozen hq 2; have HQf := Aside0.mk hq; have HBf := Aside0.mk (below_step HI.out.bel hb); clear hq hb)
   exact mr_end c c (cellsOf c c (toI q.2)) 0 rfl rfl rfl HQf.out (by kernel_rfl) ⟨by rw [← HE.out]; rfl, below_set (below_set (below_set HBf.out HQ.out) HQ.out) HQ.out⟩
end Go.Proofs.Ytoghhpkmficnmaa.Al

/- matrix.Inverse in the printer's form. -/
namespace Go.Proofs.Ytoghhpkmficnmaa.Al
open Go.RowKit Go.Proofs.Ytoghhpkmficnmaa.GfRef Go.Proofs.Ytoghhpkmficnmaa.Base Go.Proofs.Ytoghhpkmficnmaa.Grid Go.Proofs.YtoghhpkmficnmaaW.PrintWords
set_option linter.unusedVariables false
def matrix_Inverse.f (a0_0 a0_1 : Int) (a0_2 : ByteArray) : Option (Int × Int × ByteArray × Int) := some (invV a0_0 a0_1 a0_2)
theorem matrix_Inverse.calls (a0_0 : Int) (a0_1 : Int) (a0_2 : ByteArray) (r1 r2 : Int) (r3 : ByteArray) (r4 : Int) (w : World) (h : matrix_Inverse.f a0_0 a0_1 a0_2 = some (r1, r2, r3, r4)) :
  Calls Try.prog 26 #[.agg #[.int .i64 a0_0, .int .i64 a0_1, .string a0_2]] w fun e w' => e = .returned (.tuple #[.agg #[.int .i64 r1, .int .i64 r2, .string r3], .int .i64 r4]) ∧ Below w.heap.size w w' := by
 have h' := Option.some.inj h
 clear h
 by_cases hc : okM a0_0 a0_1 a0_2 ∧ a0_0 = a0_1
 ·obtain ⟨h1, rfl⟩ := hc
  obtain ⟨n, rfl⟩ := Int.eq_ofNat_of_zero_le (show 0 ≤ a0_0 by have := h1.1; omega)
  exact inv_good n a0_2 w h1 (r1, r2, r3, r4) h'
 ·unfold invV at h'
  rw [if_neg hc] at h'
  injection h' with e1 h'
  injection h' with e2 h'
  injection h' with e3 e4
  subst e1 e2 e3 e4
  exact inv_bad a0_0 a0_1 a0_2 w hc
end Go.Proofs.Ytoghhpkmficnmaa.Al

/- matrix.Mul by its contract. -/
namespace Go.Proofs.Ytoghhpkmficnmaa.Al
open Go.RowKit Go.Proofs.Ytoghhpkmficnmaa.GfMath Go.Proofs.Ytoghhpkmficnmaa.GfRef Go.Proofs.Ytoghhpkmficnmaa.Base Go.Proofs.Ytoghhpkmficnmaa.Bytes Go.Proofs.Ytoghhpkmficnmaa.Grid Go.Proofs.YtoghhpkmficnmaaW.PrintWords Go.Proofs.YtoghhpkmficnmaaW.PrintLast Go.Proofs.YtoghhpkmficnmaaW.PrintMore
set_option linter.unusedVariables false
set_option linter.unusedSimpArgs false
def mulV (ra ca : Int) (sa : ByteArray) (rb cb : Int) (sb : ByteArray) : MR :=
 if okM ra ca sa ∧ okM rb cb sb ∧ ca = rb then (ra, cb, cellsOf ra.toNat cb.toNat (toI (mm ca.toNat (entN ca.toNat sa) (entN cb.toNat sb))), 0) else errM 4
set_option maxHeartbeats 8000000 in
set_option maxRecDepth 100000 in
theorem mul_bad (ra ca : Int) (sa : ByteArray) (rb cb : Int) (sb : ByteArray) (w : World) (h : ¬ (okM ra ca sa ∧ okM rb cb sb ∧ ca = rb)) :
  Calls Try.prog 21 #[.agg #[.int .i64 ra, .int .i64 ca, .string sa], .agg #[.int .i64 rb, .int .i64 cb, .string sb]] w fun e w' => e = .returned (mrV (errM 4)) ∧ Below w.heap.size w w' := by
 by_cases h1 : okM ra ca sa
 ·have HCA := Aside0.mk (show chkE ra ca sa = 0 from if_pos h1)
  by_cases h2 : okM rb cb sb
  ·have HCB := Aside0.mk (show chkE rb cb sb = 0 from if_pos h2)
   have h3 : ca ≠ rb := fun e => h ⟨h1, h2, e⟩
   have n1 : (ca == rb) = false := beq_eq_false_iff_ne.2 h3
   have n2 : (ca != rb) = true := bne_iff_ne.2 h3
   clear h h1 h2 h3
   go_enter Try.func21, Try.ntmps21
   go_wp2_with (first | ((with_reducible refine gate_dst (N := 2) rfl ?_); refine box_event ?hg (N := 2) ?hd (cs := #[.int .i64 ra, .int .i64 ca, .string sa]) (t := 24) ?hr ?_; (case hd => rfl); (case hg => rfl); (case hr => first | (go_simp; done) | (go_simp; rfl)); intro ga hg w1 hbox hb; have HA1 := Aside0.mk hbox; have HB1 := Aside0.mk hb; clear hg hbox hb) | ((with_reducible refine gate_dst (N := 3) rfl ?_); refine box_event ?hg (N := 3) ?hd (cs := #[.int .i64 rb, .int .i64 cb, .string sb]) (t := 24) ?hr ?_; (case hd => rfl); (case hg => rfl); (case hr => first | (go_simp; done) | (go_simp; rfl)); intro gb hg w2 hbox hb; have HA2 := Aside0.mk (blk_below HA1.out hb); have HX2 := Aside0.mk hbox; have HB2 := Aside0.mk (below_step HB1.out hb); clear hg hbox hb) | ((with_reducible refine gate_dst (N := 4) rfl ?_); refine box_event ?hg (N := 4) ?hd (cs := #[.int .i64 0, .int .i64 0, .string ⟨#[]⟩]) (t := 24) ?hr ?_; (case hd => rfl); (case hg => rfl); (case hr => first | (go_simp; done) | (go_simp; rfl)); intro gq hg w3 hbox hb; have HQ := Aside0.mk (show w.heap.size ≤ gq from by have := HB2.out.size; omega); have hA := blk_below HA2.out hb; have hX := blk_below HX2.out hb; have fa0 : w3.cell? ⟨ga, 0, none⟩ = some (.int .i64 ra) := (blk_cell hA 0).trans rfl; have fa1 : w3.cell? ⟨ga, 1, none⟩ = some (.int .i64 ca) := (blk_cell hA 1).trans rfl; have fa2 : w3.cell? ⟨ga, 2, none⟩ = some (.string sa) := (blk_cell hA 2).trans rfl; have HA3 := Aside0.mk hA; have HX3 := Aside0.mk hX; have HQ3 := Aside0.mk hbox; have HB3 := Aside0.mk (below_step HB2.out hb); clear hA hX hg hbox hb) | (go_at_call 18; (with_reducible refine (check_calls ra ca sa w3).mono ?_); rintro e w4 ⟨rfl, hb⟩; rw [HCA.out]; have hq := blk_below HQ3.out hb; have q0 : w4.cell? ⟨gq, 0, none⟩ = some (.int .i64 0) := (blk_cell hq 0).trans rfl; have q1 : w4.cell? ⟨gq, 1, none⟩ = some (.int .i64 0) := (blk_cell hq 1).trans rfl; have q2 : w4.cell? ⟨gq, 2, none⟩ = some (.string ⟨#[]⟩) := (blk_cell hq 2).trans rfl; have z0 := blk_frozen hq 0; have z1 := blk_frozen hq 1; have z2 := blk_frozen hq 2; have hA := blk_below HA3.out hb; have hX := blk_below HX3.out hb; have ga0 : w4.cell? ⟨ga, 0, none⟩ = some (.int .i64 ra) := (blk_cell hA 0).trans rfl; have ga1 : w4.cell? ⟨ga, 1, none⟩ = some (.int .i64 ca) := (blk_cell hA 1).trans rfl; have ga2 : w4.cell? ⟨ga, 2, none⟩ = some (.string sa) := (blk_cell hA 2).trans rfl; have gb0 : w4.cell? ⟨gb, 0, none⟩ = some (.int .i64 rb) := (blk_cell hX 0).trans rfl; have gb1 : w4.cell? ⟨gb, 1, none⟩ = some (.int .i64 cb) := (blk_cell hX 1).trans rfl; have gb2 : w4.cell? ⟨gb, 2, none⟩ = some (.string sb) := (blk_cell hX 2).trans rfl; have HA4 := Aside0.mk hA; have HX4 := Aside0.mk hX; have HQ4 := Aside0.mk hq; have HB4 := Aside0.mk (below_step HB3.out hb); clear hb hA hX hq) | (go_at_call 18; (with_reducible refine (check_calls rb cb sb w4).mono ?_); rintro e w5 ⟨rfl, hb⟩; rw [HCB.out]; clear q0 q1 q2 z0 z1 z2; have hq := blk_below HQ4.out hb; have q0 : w5.cell? ⟨gq, 0, none⟩ = some (.int .i64 0) := (blk_cell hq 0).trans rfl; have q1 : w5.cell? ⟨gq, 1, none⟩ = some (.int .i64 0) := (blk_cell hq 1).trans rfl; have q2 : w5.cell? ⟨gq, 2, none⟩ = some (.string ⟨#[]⟩) := (blk_cell hq 2).trans rfl; have z0 := blk_frozen hq 0; have z1 := blk_frozen hq 1; have z2 := blk_frozen hq 2; have hA := blk_below HA4.out hb; have hX := blk_below HX4.out hb; have ka0 : w5.cell? ⟨ga, 0, none⟩ = some (.int .i64 ra) := (blk_cell hA 0).trans rfl; have ka1 : w5.cell? ⟨ga, 1, none⟩ = some (.int .i64 ca) := (blk_cell hA 1).trans rfl; have kb0 : w5.cell? ⟨gb, 0, none⟩ = some (.int .i64 rb) := (blk_cell hX 0).trans rfl; have kb1 : w5.cell? ⟨gb, 1, none⟩ = some (.int .i64 cb) := (blk_cell hX 1).trans rfl; have HA5 := Aside0.mk hA; have HX5 := Aside0.mk hX; have HQ5 := Aside0.mk hq; have HB5 := Aside0.mk (below_step HB4.out hb); clear hb hA hX hq))
   exact mr_end 0 0 ⟨#[]⟩ 4 rfl rfl rfl HQ5.out (by kernel_rfl) ⟨rfl, below_set (below_set (below_set HB5.out HQ.out) HQ.out) HQ.out⟩
  ·have HCB := Aside0.mk (show chkE rb cb sb = 4 from if_neg h2)
   clear h h1 h2
   go_enter Try.func21, Try.ntmps21
   go_wp2_with (first | ((with_reducible refine gate_dst (N := 2) rfl ?_); refine box_event ?hg (N := 2) ?hd (cs := #[.int .i64 ra, .int .i64 ca, .string sa]) (t := 24) ?hr ?_; (case hd => rfl); (case hg => rfl); (case hr => first | (go_simp; done) | (go_simp; rfl)); intro ga hg w1 hbox hb; have HA1 := Aside0.mk hbox; have HB1 := Aside0.mk hb; clear hg hbox hb) | ((with_reducible refine gate_dst (N := 3) rfl ?_); refine box_event ?hg (N := 3) ?hd (cs := #[.int .i64 rb, .int .i64 cb, .string sb]) (t := 24) ?hr ?_; (case hd => rfl); (case hg => rfl); (case hr => first | (go_simp; done) | (go_simp; rfl)); intro gb hg w2 hbox hb; have HA2 := Aside0.mk (blk_below HA1.out hb); have HX2 := Aside0.mk hbox; have HB2 := Aside0.mk (below_step HB1.out hb); clear hg hbox hb) | ((with_reducible refine gate_dst (N := 4) rfl ?_); refine box_event ?hg (N := 4) ?hd (cs := #[.int .i64 0, .int .i64 0, .string ⟨#[]⟩]) (t := 24) ?hr ?_; (case hd => rfl); (case hg => rfl); (case hr => first | (go_simp; done) | (go_simp; rfl)); intro gq hg w3 hbox hb; have HQ := Aside0.mk (show w.heap.size ≤ gq from by have := HB2.out.size; omega); have hA := blk_below HA2.out hb; have hX := blk_below HX2.out hb; have fa0 : w3.cell? ⟨ga, 0, none⟩ = some (.int .i64 ra) := (blk_cell hA 0).trans rfl; have fa1 : w3.cell? ⟨ga, 1, none⟩ = some (.int .i64 ca) := (blk_cell hA 1).trans rfl; have fa2 : w3.cell? ⟨ga, 2, none⟩ = some (.string sa) := (blk_cell hA 2).trans rfl; have HA3 := Aside0.mk hA; have HX3 := Aside0.mk hX; have HQ3 := Aside0.mk hbox; have HB3 := Aside0.mk (below_step HB2.out hb); clear hA hX hg hbox hb) | (go_at_call 18; (with_reducible refine (check_calls ra ca sa w3).mono ?_); rintro e w4 ⟨rfl, hb⟩; rw [HCA.out]; have hq := blk_below HQ3.out hb; have q0 : w4.cell? ⟨gq, 0, none⟩ = some (.int .i64 0) := (blk_cell hq 0).trans rfl; have q1 : w4.cell? ⟨gq, 1, none⟩ = some (.int .i64 0) := (blk_cell hq 1).trans rfl; have q2 : w4.cell? ⟨gq, 2, none⟩ = some (.string ⟨#[]⟩) := (blk_cell hq 2).trans rfl; have z0 := blk_frozen hq 0; have z1 := blk_frozen hq 1; have z2 := blk_frozen hq 2; have hA := blk_below HA3.out hb; have hX := blk_below HX3.out hb; have ga0 : w4.cell? ⟨ga, 0, none⟩ = some (.int .i64 ra) := (blk_cell hA 0).trans rfl; have ga1 : w4.cell? ⟨ga, 1, none⟩ = some (.int .i64 ca) := (blk_cell hA 1).trans rfl; have ga2 : w4.cell? ⟨ga, 2, none⟩ = some (.string sa) := (blk_cell hA 2).trans rfl; have gb0 : w4.cell? ⟨gb, 0, none⟩ = some (.int .i64 rb) := (blk_cell hX 0).trans rfl; have gb1 : w4.cell? ⟨gb, 1, none⟩ = some (.int .i64 cb) := (blk_cell hX 1).trans rfl; have gb2 : w4.cell? ⟨gb, 2, none⟩ = some (.string sb) := (blk_cell hX 2).trans rfl; have HA4 := Aside0.mk hA; have HX4 := Aside0.mk hX; have HQ4 := Aside0.mk hq; have HB4 := Aside0.mk (below_step HB3.out hb); clear hb hA hX hq) | (go_at_call 18; (with_reducible refine (check_calls rb cb sb w4).mono ?_); rintro e w5 ⟨rfl, hb⟩; rw [HCB.out]; clear q0 q1 q2 z0 z1 z2; have hq := blk_below HQ4.out hb; have q0 : w5.cell? ⟨gq, 0, none⟩ = some (.int .i64 0) := (blk_cell hq 0).trans rfl; have q1 : w5.cell? ⟨gq, 1, none⟩ = some (.int .i64 0) := (blk_cell hq 1).trans rfl; have q2 : w5.cell? ⟨gq, 2, none⟩ = some (.string ⟨#[]⟩) := (blk_cell hq 2).trans rfl; have z0 := blk_frozen hq 0; have z1 := blk_frozen hq 1; have z2 := blk_frozen hq 2; have hA := blk_below HA4.out hb; have hX := blk_below HX4.out hb; have ka0 : w5.cell? ⟨ga, 0, none⟩ = some (.int .i64 ra) := (blk_cell hA 0).trans rfl; have ka1 : w5.cell? ⟨ga, 1, none⟩ = some (.int .i64 ca) := (blk_cell hA 1).trans rfl; have kb0 : w5.cell? ⟨gb, 0, none⟩ = some (.int .i64 rb) := (blk_cell hX 0).trans rfl; have kb1 : w5.cell? ⟨gb, 1, none⟩ = some (.int .i64 cb) := (blk_cell hX 1).trans rfl; have HA5 := Aside0.mk hA; have HX5 := Aside0.mk hX; have HQ5 := Aside0.mk hq; have HB5 := Aside0.mk (below_step HB4.out hb); clear hb hA hX hq))
   exact mr_end 0 0 ⟨#[]⟩ 4 rfl rfl rfl HQ5.out (by kernel_rfl) ⟨rfl, below_set (below_set (below_set HB5.out HQ.out) HQ.out) HQ.out⟩
 ·have HCA := Aside0.mk (show chkE ra ca sa = 4 from if_neg h1)
  clear h h1
  go_enter Try.func21, Try.ntmps21
  go_wp2_with (first | ((with_reducible refine gate_dst (N := 2) rfl ?_); refine box_event ?hg (N := 2) ?hd (cs := #[.int .i64 ra, .int .i64 ca, .string sa]) (t := 24) ?hr ?_; (case hd => rfl); (case hg => rfl); (case hr => first | (go_simp; done) | (go_simp; rfl)); intro ga hg w1 hbox hb; have HA1 := Aside0.mk hbox; have HB1 := Aside0.mk hb; clear hg hbox hb) | ((with_reducible refine gate_dst (N := 3) rfl ?_); refine box_event ?hg (N := 3) ?hd (cs := #[.int .i64 rb, .int .i64 cb, .string sb]) (t := 24) ?hr ?_; (case hd => rfl); (case hg => rfl); (case hr => first | (go_simp; done) | (go_simp; rfl)); intro gb hg w2 hbox hb; have HA2 := Aside0.mk (blk_below HA1.out hb); have HX2 := Aside0.mk hbox; have HB2 := Aside0.mk (below_step HB1.out hb); clear hg hbox hb) | ((with_reducible refine gate_dst (N := 4) rfl ?_); refine box_event ?hg (N := 4) ?hd (cs := #[.int .i64 0, .int .i64 0, .string ⟨#[]⟩]) (t := 24) ?hr ?_; (case hd => rfl); (case hg => rfl); (case hr => first | (go_simp; done) | (go_simp; rfl)); intro gq hg w3 hbox hb; have HQ := Aside0.mk (show w.heap.size ≤ gq from by have := HB2.out.size; omega); have hA := blk_below HA2.out hb; have hX := blk_below HX2.out hb; have fa0 : w3.cell? ⟨ga, 0, none⟩ = some (.int .i64 ra) := (blk_cell hA 0).trans rfl; have fa1 : w3.cell? ⟨ga, 1, none⟩ = some (.int .i64 ca) := (blk_cell hA 1).trans rfl; have fa2 : w3.cell? ⟨ga, 2, none⟩ = some (.string sa) := (blk_cell hA 2).trans rfl; have HA3 := Aside0.mk hA; have HX3 := Aside0.mk hX; have HQ3 := Aside0.mk hbox; have HB3 := Aside0.mk (below_step HB2.out hb); clear hA hX hg hbox hb) | (go_at_call 18; (with_reducible refine (check_calls ra ca sa w3).mono ?_); rintro e w4 ⟨rfl, hb⟩; rw [HCA.out]; have hq := blk_below HQ3.out hb; have q0 : w4.cell? ⟨gq, 0, none⟩ = some (.int .i64 0) := (blk_cell hq 0).trans rfl; have q1 : w4.cell? ⟨gq, 1, none⟩ = some (.int .i64 0) := (blk_cell hq 1).trans rfl; have q2 : w4.cell? ⟨gq, 2, none⟩ = some (.string ⟨#[]⟩) := (blk_cell hq 2).trans rfl; have z0 := blk_frozen hq 0; have z1 := blk_frozen hq 1; have z2 := blk_frozen hq 2; have hA := blk_below HA3.out hb; have hX := blk_below HX3.out hb; have ga0 : w4.cell? ⟨ga, 0, none⟩ = some (.int .i64 ra) := (blk_cell hA 0).trans rfl; have ga1 : w4.cell? ⟨ga, 1, none⟩ = some (.int .i64 ca) := (blk_cell hA 1).trans rfl; have ga2 : w4.cell? ⟨ga, 2, none⟩ = some (.string sa) := (blk_cell hA 2).trans rfl; have gb0 : w4.cell? ⟨gb, 0, none⟩ = some (.int .i64 rb) := (blk_cell hX 0).trans rfl; have gb1 : w4.cell? ⟨gb, 1, none⟩ = some (.int .i64 cb) := (blk_cell hX 1).trans rfl; have gb2 : w4.cell? ⟨gb, 2, none⟩ = some (.string sb) := (blk_cell hX 2).trans rfl; have HA4 := Aside0.mk hA; have HX4 := Aside0.mk hX; have HQ4 := Aside0.mk hq; have HB4 := Aside0.mk (below_step HB3.out hb); clear hb hA hX hq))
  exact mr_end 0 0 ⟨#[]⟩ 4 rfl rfl rfl HQ4.out (by kernel_rfl) ⟨rfl, below_set (below_set (below_set HB4.out HQ.out) HQ.out) HQ.out⟩
theorem tab_grown {w w' : World} {g : Nat} (h : Tab w g) (hg : w.grownBy w' none) : Tab w' g := by
 obtain ⟨cs, hcs, hok⟩ := h
 exact ⟨cs, blk_grown hcs hg (by simp), hok⟩
theorem keep_blk {w w' : World} {g0 g t : Nat} {cs cells : Array Value} (hk : KeepBut w w' g0 none) (h0 : w.heap[g0]? = some (.cells cells 54 (0, 0))) (hb : w.heap[g]? = some (.cells cs t (0, 0))) (ht : t ≠ 54) : w'.heap[g]? = some (.cells cs t (0, 0)) := (hk.2 g (blk_lt hb) (blk_ne hb h0 ht) (by simp)).trans hb
theorem keep_tab {w w' : World} {g0 g : Nat} {cells : Array Value} (hk : KeepBut w w' g0 none) (h0 : w.heap[g0]? = some (.cells cells 54 (0, 0))) (hb : Tab w g) : Tab w' g := by
 obtain ⟨cs, hcs, hok⟩ := hb
 exact ⟨cs, keep_blk hk h0 hcs (by decide), hok⟩
theorem keep_rows {w w' : World} {g0 gR n m : Nat} {f : Nat → Nat → Int} {cells : Array Value} (hk : KeepBut w w' g0 none) (h0 : w.heap[g0]? = some (.cells cells 54 (0, 0))) (hne : gR ≠ g0) (hb : RowsC w gR n m f) : RowsC w' gR n m f := fun i hi => by
 obtain ⟨rb, c, h1, h2⟩ := hb i hi
 refine ⟨rb, c, ?_, h2.keep (hk.2 rb h2.lt (h2.ne h0 (by decide)) (by simp))⟩
 have h3 := hk.2 gR (World.block_lt_of_cell? w ⟨gR, i, none⟩ h1) hne (by simp)
 unfold World.cell? at h1 ⊢
 rw [show (⟨gR, i, none⟩ : Addr).block = gR from rfl] at h1 ⊢
 rw [h3]; exact h1
/-- Product's rows: below i done, row i up to term k, column j of term k. -/
def fJ (A B : Mx) (ca i k j a b : Nat) : Int := if a = i then (if b < j then ((xs (k + 1) (fun l => mulN (A i l) (B l b)) : Nat) : Int) else ((xs k (fun l => mulN (A i l) (B l b)) : Nat) : Int)) else toI (mm ca A B) a b
theorem fJ_by (A B : Mx) (ca i k j a b : Nat) : Byte (fJ A B ca i k j a b) := by
 unfold fJ
 split
 ·split
  ·have := xs_lt (n := k + 1) (f := fun l => mulN (A i l) (B l b)) (fun _ _ => mul_lt _ _); unfold Byte; omega
  ·have := xs_lt (n := k) (f := fun l => mulN (A i l) (B l b)) (fun _ _ => mul_lt _ _); unfold Byte; omega
 ·exact toI_by (mm_by _ _ _) a b
theorem fJ_step {A B : Mx} {ca i k j : Nat} : Go.bits .xor .u8 (fJ A B ca i k j i j) (mulI ((A i k : Nat) : Int) ((B k j : Nat) : Int)) = ((xs (k + 1) (fun l => mulN (A i l) (B l j)) : Nat) : Int) := by
 rw [(byte_xor (fJ_by A B ca i k j i j) (byte_mul _ _)).2]
 unfold fJ
 rw [if_pos rfl, if_neg (by omega)]
 simp only [Int.toNat_natCast, mulI]
 rfl
theorem fJ_next {A B : Mx} {ca i k j a b : Nat} : (if a = i ∧ b = j then ((xs (k + 1) (fun l => mulN (A i l) (B l j)) : Nat) : Int) else fJ A B ca i k j a b) = fJ A B ca i k (j + 1) a b := by
 unfold fJ
 by_cases e1 : a = i
 ·by_cases e2 : b = j
  ·rw [if_pos ⟨e1, e2⟩, if_pos e1, if_pos (by omega), e2]
  ·rw [if_neg (fun h => e2 h.2), if_pos e1, if_pos e1]
   by_cases e3 : b < j
   ·rw [if_pos e3, if_pos (by omega)]
   ·rw [if_neg e3, if_neg (by omega)]
 ·rw [if_neg (fun h => e1 h.1), if_neg e1, if_neg e1]
theorem fJ_all {A B : Mx} {ca i k m a b : Nat} (hb : b < m) : fJ A B ca i k m a b = fJ A B ca i (k + 1) 0 a b := by
 unfold fJ
 by_cases e1 : a = i
 ·rw [if_pos e1, if_pos e1, if_pos hb, if_neg (by omega)]
 ·rw [if_neg e1, if_neg e1]
theorem fJ_end {A B : Mx} {ca i a b : Nat} : fJ A B ca i ca 0 a b = toI (mm ca A B) a b := by
 unfold fJ
 by_cases e1 : a = i
 ·rw [if_pos e1, if_neg (by omega), e1]; rfl
 ·rw [if_neg e1]
def rg21_17_T : Bool × List (List Nat × List Nat) := (true, [([], []), ([], []), ([0, 1], [0, 1]), ([2], [2]), ([], []), ([3, 4], [3, 4]), ([5], [5]), ([], []), ([], []), ([], []), ([7, 8, 9], [7, 8, 9]), ([6, 10], [6, 10]), ([3, 4, 0, 1, 2, 3, 4, 5, 6, 7, 8, 9, 10, 11], [3, 4]), ([12, 11, 10, 0, 1, 2, 3, 4, 5, 6, 7, 8, 9, 10, 11], [11, 12])])
def rg21_17_B : List Nat := [0, 0, 3, 7, 0, 31, 63, 0, 0, 0, 896, 2047, 4095, 8191]
theorem rg21_17_tab : rtab .any (opsOf Try.f21 17) = rg21_17_T := by kernel_rfl
theorem rg21_17_bits : waitsOk rg21_17_T.2 rg21_17_B = true := by kernel_rfl
set_option maxHeartbeats 8000000 in
set_option maxRecDepth 100000 in
theorem mul_good (ra ca : Nat) (sa : ByteArray) (cb : Nat) (sb : ByteArray) (w : World) (h1 : okM ra ca sa) (h2 : okM ca cb sb) :
  Calls Try.prog 21 #[.agg #[.int .i64 ra, .int .i64 ca, .string sa], .agg #[.int .i64 ca, .int .i64 cb, .string sb]] w fun e w' => e = .returned (mrV (ra, cb, cellsOf ra cb (toI (mm ca (entN ca sa) (entN cb sb))), 0)) ∧ Below w.heap.size w w' := by
 have HCA := Aside0.mk (show chkE ra ca sa = 0 from if_pos h1)
 have HCB := Aside0.mk (show chkE ca cb sb = 0 from if_pos h2)
 have hra0 : 1 ≤ ra := by have := h1.1; omega
 have hra1 : ra ≤ 255 := by have := h1.2.1; omega
 have hca0 : 1 ≤ ca := by have := h1.2.2.1; omega
 have hca1 : ca ≤ 255 := by have := h1.2.2.2.1; omega
 have hcb0 : 1 ≤ cb := by have := h2.2.2.1; omega
 have hcb1 : cb ≤ 255 := by have := h2.2.2.2.1; omega
 have HSA := Aside0.mk (show sa.size = ra * ca by have := h1.2.2.2.2; rw [← Int.natCast_mul] at this; omega)
 have HSB := Aside0.mk (show sb.size = ca * cb by have := h2.2.2.2.2; rw [← Int.natCast_mul] at this; omega)
 have n1 : ((ca : Int) == (ca : Int)) = true := by simp
 have n2 : ((ca : Int) != (ca : Int)) = false := by simp
 have hmk := print_make (P := Try.prog) 54 5 .u8 1 Try.underlying54 info5 (by decide) cb (by omega)
 have HMK := Aside0.mk hmk
 clear h1 h2 hmk
 go_enter Try.func21, Try.ntmps21
 go_wp2_with (first | ((with_reducible refine gate_dst (N := 2) rfl ?_); refine box_event ?hg (N := 2) ?hd (cs := #[.int .i64 ra, .int .i64 ca, .string sa]) (t := 24) ?hr ?_; (case hd => rfl); (case hg => rfl); (case hr => first | (go_simp; done) | (go_simp; rfl)); intro ga hg w1 hbox hb; have HA1 := Aside0.mk hbox; have HB1 := Aside0.mk hb; clear hg hbox hb) | ((with_reducible refine gate_dst (N := 3) rfl ?_); refine box_event ?hg (N := 3) ?hd (cs := #[.int .i64 ca, .int .i64 cb, .string sb]) (t := 24) ?hr ?_; (case hd => rfl); (case hg => rfl); (case hr => first | (go_simp; done) | (go_simp; rfl)); intro gb hg w2 hbox hb; have HA2 := Aside0.mk (blk_below HA1.out hb); have HX2 := Aside0.mk hbox; have HB2 := Aside0.mk (below_step HB1.out hb); clear hg hbox hb) | ((with_reducible refine gate_dst (N := 4) rfl ?_); refine box_event ?hg (N := 4) ?hd (cs := #[.int .i64 0, .int .i64 0, .string ⟨#[]⟩]) (t := 24) ?hr ?_; (case hd => rfl); (case hg => rfl); (case hr => first | (go_simp; done) | (go_simp; rfl)); intro gq hg w3 hbox hb; have HQ := Aside0.mk (show w.heap.size ≤ gq from by have := HB2.out.size; omega); have hA := blk_below HA2.out hb; have hX := blk_below HX2.out hb; have fa0 : w3.cell? ⟨ga, 0, none⟩ = some (.int .i64 ra) := (blk_cell hA 0).trans rfl; have fa1 : w3.cell? ⟨ga, 1, none⟩ = some (.int .i64 ca) := (blk_cell hA 1).trans rfl; have fa2 : w3.cell? ⟨ga, 2, none⟩ = some (.string sa) := (blk_cell hA 2).trans rfl; have HA3 := Aside0.mk hA; have HX3 := Aside0.mk hX; have HQ3 := Aside0.mk hbox; have HB3 := Aside0.mk (below_step HB2.out hb); clear hA hX hg hbox hb) | (go_at_call 18; (with_reducible refine (check_calls ra ca sa w3).mono ?_); rintro e w4 ⟨rfl, hb⟩; rw [HCA.out]; have hq := blk_below HQ3.out hb; have q0 : w4.cell? ⟨gq, 0, none⟩ = some (.int .i64 0) := (blk_cell hq 0).trans rfl; have q1 : w4.cell? ⟨gq, 1, none⟩ = some (.int .i64 0) := (blk_cell hq 1).trans rfl; have q2 : w4.cell? ⟨gq, 2, none⟩ = some (.string ⟨#[]⟩) := (blk_cell hq 2).trans rfl; have z0 := blk_frozen hq 0; have z1 := blk_frozen hq 1; have z2 := blk_frozen hq 2; have hA := blk_below HA3.out hb; have hX := blk_below HX3.out hb; have ga0 : w4.cell? ⟨ga, 0, none⟩ = some (.int .i64 ra) := (blk_cell hA 0).trans rfl; have ga1 : w4.cell? ⟨ga, 1, none⟩ = some (.int .i64 ca) := (blk_cell hA 1).trans rfl; have ga2 : w4.cell? ⟨ga, 2, none⟩ = some (.string sa) := (blk_cell hA 2).trans rfl; have gb0 : w4.cell? ⟨gb, 0, none⟩ = some (.int .i64 ca) := (blk_cell hX 0).trans rfl; have gb1 : w4.cell? ⟨gb, 1, none⟩ = some (.int .i64 cb) := (blk_cell hX 1).trans rfl; have gb2 : w4.cell? ⟨gb, 2, none⟩ = some (.string sb) := (blk_cell hX 2).trans rfl; have HA4 := Aside0.mk hA; have HX4 := Aside0.mk hX; have HQ4 := Aside0.mk hq; have HB4 := Aside0.mk (below_step HB3.out hb); clear hb hA hX hq) | (go_at_call 18; (with_reducible refine (check_calls ca cb sb w4).mono ?_); rintro e w5 ⟨rfl, hb⟩; rw [HCB.out]; clear q0 q1 q2 z0 z1 z2; have hq := blk_below HQ4.out hb; have q0 : w5.cell? ⟨gq, 0, none⟩ = some (.int .i64 0) := (blk_cell hq 0).trans rfl; have q1 : w5.cell? ⟨gq, 1, none⟩ = some (.int .i64 0) := (blk_cell hq 1).trans rfl; have q2 : w5.cell? ⟨gq, 2, none⟩ = some (.string ⟨#[]⟩) := (blk_cell hq 2).trans rfl; have z0 := blk_frozen hq 0; have z1 := blk_frozen hq 1; have z2 := blk_frozen hq 2; have hA := blk_below HA4.out hb; have hX := blk_below HX4.out hb; have ka0 : w5.cell? ⟨ga, 0, none⟩ = some (.int .i64 ra) := (blk_cell hA 0).trans rfl; have ka1 : w5.cell? ⟨ga, 1, none⟩ = some (.int .i64 ca) := (blk_cell hA 1).trans rfl; have kb0 : w5.cell? ⟨gb, 0, none⟩ = some (.int .i64 ca) := (blk_cell hX 0).trans rfl; have kb1 : w5.cell? ⟨gb, 1, none⟩ = some (.int .i64 cb) := (blk_cell hX 1).trans rfl; have HA5 := Aside0.mk hA; have HX5 := Aside0.mk hX; have HQ5 := Aside0.mk hq; have HB5 := Aside0.mk (below_step HB4.out hb); clear hb hA hX hq) | (go_at_call 28; refine (gf_New.calls _).mono ?_; rintro e w6 ⟨gf, rfl, hge, ht, hb⟩; clear q0 q1 q2 z0 z1 z2 ka0 ka1 kb0 kb1; have HT6 := Aside0.mk ht; have HA6 := Aside0.mk (blk_below HA5.out hb); have HX6 := Aside0.mk (blk_below HX5.out hb); have HQ6 := Aside0.mk (blk_below HQ5.out hb); have HB6 := Aside0.mk (below_step HB5.out hb); have fa6 : w6.cell? ⟨ga, 0, none⟩ = some (.int .i64 ra) := (blk_cell HA6.out 0).trans rfl; clear hge ht hb) | ((with_reducible refine gate_dst (N := 33) rfl ?_); refine Kd.R_make (kG cb) (w0 := w) w.heap.size 54 rfl (N := 33) rfl 52 (.tmp 32) (.tmp 32) rfl (ra : Int) rfl rfl Try.underlying52 (.slice none 0 0) 24 info54 rfl Nat.one_pos (by omega) none (okp := fun _ => False) (ok := fun _ => True) ?hz (fun _ h => h.elim) trivial (by omega) ?hl HB6.out HB6.out.size ?_; (case hz => exact rfl); (case hl => omega); intro v7 w7 ho hb7 hgr hat; obtain ⟨g0, cap0, e0, hge, hlt, cells, hcc⟩ := Kd.R_form ho (by simp; omega); subst e0; simp only [List.length_replicate, Int.toNat_natCast] at ho ⊢; have HGE := Aside0.mk hge; have HO7 := Aside0.mk ho; have HB7 := Aside0.mk hb7; have HT7 := Aside0.mk (tab_grown HT6.out hgr); have HA7 := Aside0.mk (blk_grown HA6.out hgr (by simp)); have hX := blk_grown HX6.out hgr (by simp); have HQ7 := Aside0.mk (blk_grown HQ6.out hgr (by simp)); have fb0 : w7.cell? ⟨gb, 0, none⟩ = some (.int .i64 ca) := (blk_cell hX 0).trans rfl; have fb1 : w7.cell? ⟨gb, 1, none⟩ = some (.int .i64 cb) := (blk_cell hX 1).trans rfl; have fb2 : w7.cell? ⟨gb, 2, none⟩ = some (.string sb) := (blk_cell hX 2).trans rfl; have HX7 := Aside0.mk hX; clear hge hlt hcc ho hb7 hgr hat hX) | (go_at_call 33; refine (of_calls ca cb sb _ hca0 hca1 hcb0 hcb1 HSB.out).mono ?_; rintro e w8 ⟨vR, rR, rfl, hrl, hG, hb⟩; obtain ⟨gR, cR, egR, hgR, _, _, _⟩ := hG.form (by simp only [List.length_map]; omega); rw [List.length_map, hrl] at egR; subst egR; have HNE := Aside0.mk (show gR ≠ g0 from by have := blk_lt (Kd.R_typed HO7.out g0 (by simp [Value.ownBlock])).choose_spec; omega); have HR8 := Aside0.mk (hG.rows hrl); have HO8 := Aside0.mk (Kd.R_below HO7.out hb); have HT8 := Aside0.mk (HT7.out.below hb); have HA8 := Aside0.mk (blk_below HA7.out hb); have HX8 := Aside0.mk (blk_below HX7.out hb); have HQ8 := Aside0.mk (blk_below HQ7.out hb); have HB8 := Aside0.mk (below_step HB7.out hb); clear hgR hrl hG hb))
 have HZ8 := Aside0.mk (Kd.R_typed HO8.out g0 (by simp [Value.ownBlock]))
 go_loopw [9, 10, 11, 12, 13, 38] (fun v9 v10 v11 v12 v13 v38 wr => ∃ (i : Nat) (rs : List (Nat × Nat)), v38 = .int .i64 i ∧ i ≤ ra ∧ Aside0 (rs.length = i) ∧ Aside0 (Grid w.heap.size wr (.slice (some ⟨g0, 0, none⟩) ra cap0) cb (gpart rs ra) rs (toI (mm ca (entN ca sa) (entN cb sb)))) ∧ Aside0 (KeepBut w8 wr g0 none) ∧ Aside0 (Below w.heap.size w wr) ∧ Aside0 (∀ p, p ∈ rs → w8.heap.size ≤ p.1)) (fun _ _ _ _ _ v38 _ => ra - (intOf v38).toNat)
 case atStart => exact ⟨0, [], rfl, Nat.zero_le _, ⟨rfl⟩, ⟨⟨by rw [gpart_nil]; exact HO8.out, fun i p hp => by simp at hp, by simp⟩⟩, ⟨KeepBut.refl _ _ _⟩, HB8, ⟨fun p hp => by simp at hp⟩⟩
 case round =>
  obtain ⟨i, rs, rfl, hi, HL, HG, HK, HB, HNW⟩ := hrel
  obtain ⟨wo, rfl⟩ : ∃ wo : World, wo = wr := ⟨_, rfl⟩
  obtain ⟨zc, hz8⟩ := HZ8.out
  have HZC := Aside0.mk hz8
  clear hz8
  by_cases hlt : i < ra
  ·have hmk := HMK.out
   have fb1 : wo.cell? ⟨gb, 1, none⟩ = some (.int .i64 cb) := (blk_cell (keep_blk HK.out HZC.out HX8.out (by decide)) 1).trans rfl
   have HG1 := Aside0.mk (HG.out.alloc (.cells (madeCells #[.int .u8 0] cb) 5))
   obtain ⟨hoc, hof⟩ := HG1.out.outer hlt
   go_upto_region 10 with (fail)
   have HG2 := HG1.out.put HG.out.lt (br_lit wo (madeCells #[.int .u8 0] cb) cb (fun j hj => made_get _ _ _ hj)) HB.out.size i cb
   have HB2 := Aside0.mk (below_set (j := i) (v := .slice (some ⟨wo.heap.size, 0, none⟩) cb cb) (HB.out.alloc HB.out.size (.cells (madeCells #[.int .u8 0] cb) 5)) HGE.out)
   have HK2 := Aside0.mk (KeepBut.set_ (g := g0) (row := none) (keep_alloc HK.out (.cells (madeCells #[.int .u8 0] cb) 5)) i (.slice (some ⟨wo.heap.size, 0, none⟩) cb cb))
   obtain ⟨W1, hW1⟩ : ∃ W, W = ((wo.alloc (.cells (madeCells #[.int .u8 0] cb) 5)).setCell ⟨g0, i, none⟩ (.slice (some ⟨wo.heap.size, 0, none⟩) cb cb)) := ⟨_, rfl⟩
   rw [← hW1] at HG2 HB2 HK2 ⊢
   have hL := HL.out
   have hp := gpart_set (rs := rs) (n := ra) (by omega) (wo.heap.size, cb)
   rw [hL] at hp
   rw [hp] at HG2
   have hri : (rs ++ [(wo.heap.size, cb)])[i]? = some (wo.heap.size, cb) := by rw [← hL]; simp
   have HRI := Aside0.mk hri
   have HNB := Aside0.mk HK.out.1
   obtain ⟨rs2, hrs2⟩ : ∃ l, l = rs ++ [(wo.heap.size, cb)] := ⟨_, rfl⟩
   have HL2 : Aside0 (rs2.length = i + 1) := ⟨by rw [hrs2, List.length_append, hL]; rfl⟩
   have HNW2 : Aside0 (∀ p, p ∈ rs2 → w8.heap.size ≤ p.1) := ⟨fun p hp => by
    rw [hrs2] at hp
    rcases List.mem_append.1 hp with hp | hp
    ·exact HNW.out p hp
    ·rw [List.mem_singleton.1 hp]; exact HNB.out⟩
   rw [← hrs2] at HG2 HRI
   obtain ⟨rw_, hrw⟩ : ∃ g, g = wo.heap.size := ⟨_, rfl⟩
   rw [← hrw] at HRI
   have HG3 : Aside0 (Grid w.heap.size W1 (.slice (some ⟨g0, 0, none⟩) ra cap0) cb (gpart rs2 ra) rs2 (fJ (entN ca sa) (entN cb sb) ca i 0 0)) := ⟨HG2.congr fun a b ha hb => by
    unfold fJ
    by_cases e : a = i
    ·rw [if_pos (by rw [hL]; exact e), if_pos e, if_neg (by omega)]; rfl
    ·rw [if_neg (by rw [hL]; exact e), if_neg e]⟩
   have HO2 := Aside0.mk (HG2.outer hlt).1
   have HO3 : Aside0 (rowV cb ((gpart rs2 ra).getD i none) = .slice (some ⟨rw_, 0, none⟩) cb cb) := ⟨by
    have hr := HRI.out
    have hl := HL2.out
    rw [List.getD_eq_getElem?_getD, gpart, List.getElem?_append_left (by simp; omega), List.getElem?_map, hr]; rfl⟩
   clear hW1 hL hp HG2 hri hoc hof hmk hrs2 hrw HG HG1 HB HK HNW fb1
   have fa1 : W1.cell? ⟨ga, 1, none⟩ = some (.int .i64 ca) := (blk_cell (keep_blk HK2.out HZC.out HA8.out (by decide)) 1).trans rfl
   go_wp2
   clear fa1
   go_loopw [10, 11, 12, 13, 49] (fun v10 v11 v12 v13 v49 wr => ∃ k : Nat, v49 = .int .i64 k ∧ k ≤ ca ∧ Aside0 (Grid w.heap.size wr (.slice (some ⟨g0, 0, none⟩) ra cap0) cb (gpart rs2 ra) rs2 (fJ (entN ca sa) (entN cb sb) ca i k 0)) ∧ Aside0 (KeepBut w8 wr g0 none) ∧ Aside0 (Below w.heap.size w wr)) (fun _ _ _ _ v49 _ => ca - (intOf v49).toNat)
   case atStart => exact ⟨0, rfl, Nat.zero_le _, HG3, HK2, HB2⟩
   case round =>
    obtain ⟨k, rfl, hk, HG4, HK4, HB4⟩ := hrel
    obtain ⟨wm, rfl⟩ : ∃ wm : World, wm = wr := ⟨_, rfl⟩
    clear HG3 HK2 HB2
    by_cases hkl : k < ca
    ·have hA := keep_blk HK4.out HZC.out HA8.out (by decide)
     have fa1 : wm.cell? ⟨ga, 1, none⟩ = some (.int .i64 ca) := (blk_cell hA 1).trans rfl
     have fa2 : wm.cell? ⟨ga, 2, none⟩ = some (.string sa) := (blk_cell hA 2).trans rfl
     obtain ⟨rk, ck, hrk8, hbk8⟩ := HR8.out k hkl
     have hbk : Br wm rk cb _ := hbk8.keep (HK4.out.2 rk hbk8.lt (hbk8.ne HZC.out (by decide)) (by simp))
     have HRLT := Aside0.mk hbk8.lt
     have hrk : wm.cell? ⟨gR, k, none⟩ = some (.slice (some ⟨rk, 0, none⟩) cb ck) := keep_cell HK4.out hrk8 HNE.out
     clear hrk8 hbk8
     have HBK := Aside0.mk hbk
     have h1 : (i + 1) * ca ≤ ra * ca := Nat.mul_le_mul_right _ hlt
     have h2 : (i + 1) * ca = i * ca + ca := Nat.succ_mul _ _
     have h3 : ra * ca ≤ 255 * 255 := Nat.mul_le_mul hra1 hca1
     have hsz := HSA.out
     obtain ⟨P, hP⟩ : ∃ P : Int, P = ((i * ca : Nat) : Int) := ⟨_, rfl⟩
     have e1 : IntKind.i64.wrap ((i : Int) * (ca : Int)) = P := by rw [hP, IntKind.wrap_i64, ← Int.natCast_mul]; omega
     have b1 : 0 ≤ P := by omega
     have b2 : P ≤ 65025 := by omega
     have d1 : decide (0 ≤ P + (k : Int)) = true := decide_eq_true (by omega)
     have d2 : decide (P + (k : Int) < (sa.size : Int)) = true := decide_eq_true (by omega)
     have p1 : (0 ≤ P + (k : Int)) = True := eq_true (by omega)
     have p2 : (P + (k : Int) < (sa.size : Int)) = True := eq_true (by omega)
     have hx := bt_at sa (P + (k : Int))
     rw [show bt sa (P + (k : Int)) = ((entN ca sa i k : Nat) : Int) from by rw [hP, ← Int.natCast_add]; exact (toI_ent ca sa i k).symm] at hx
     have i1 : decide ((k : Int) < (ca : Int)) = true := decide_eq_true (by omega)
     clear hA hbk h1 h2 h3 hsz hP
     go_wp2
     clear hx p1 p2 d1 d2 e1 b1 b2 fa1 fa2 hrk
     go_loopw [12, 13, 66] (fun v12 v13 v66 wr => ∃ j : Nat, v66 = .int .i64 j ∧ j ≤ cb ∧ Aside0 (Grid w.heap.size wr (.slice (some ⟨g0, 0, none⟩) ra cap0) cb (gpart rs2 ra) rs2 (fJ (entN ca sa) (entN cb sb) ca i k j)) ∧ Aside0 (KeepBut w8 wr g0 none) ∧ Aside0 (Below w.heap.size w wr) ∧ Aside0 (Br wr rk cb (toI (entN cb sb) k))) (fun _ _ v66 _ => cb - (intOf v66).toNat)
     case atStart => exact ⟨0, rfl, Nat.zero_le _, HG4, HK4, HB4, ⟨HBK.out.congr fun j _ => (toI_ent cb sb k j).symm⟩⟩
     case round =>
      obtain ⟨j, rfl, hj, HG5, HK5, HB5, HR5⟩ := hrel
      clear HG4 HK4 HB4 HBK
      by_cases hjl : j < cb
      ·have hy := HR5.out.cell hjl
       have ho := (HG5.out.outer hlt).1
       rw [HO3.out] at ho
       obtain ⟨hrow, hrg⟩ := HG5.out.row i _ HRI.out
       have hcur := hrow.cell hjl
       have hfr := hrow.frozen hjl
       have HBY1 : Aside0 (Byte ((entN ca sa i k : Nat) : Int)) := ⟨by have := entN_by ca sa i k; unfold Byte; omega⟩
       have HBY2 : Aside0 (Byte (toI (entN cb sb) k j)) := ⟨toI_by (entN_by cb sb) k j⟩
       have HTd := (keep_tab HK5.out HZC.out HT8.out).below (below_drew (Below.refl _ wr))
       have HGd := HG5.out.below (below_drew (Below.refl _ wr))
       have HKd : KeepBut w8 wr.drew g0 none := HK5.out
       have HBd := below_drew1 HB5.out
       have HRd : Br wr.drew rk cb (toI (entN cb sb) k) := HR5.out
       have hod : wr.drew.cell? ⟨g0, i, none⟩ = some (.slice (some ⟨rw_, 0, none⟩) cb cb) := ho
       have hcd : wr.drew.cell? ⟨rw_, j, none⟩ = some (.int .u8 (fJ (entN ca sa) (entN cb sb) ca i k j i j)) := hcur
       have hfd : wr.drew.frozen? ⟨rw_, j, none⟩ = false := hfr
       have i2 : decide ((j : Int) < (cb : Int)) = true := decide_eq_true (by omega)
       have i3 : decide ((i : Int) < (ra : Int)) = true := decide_eq_true (by omega)
       have i4 : (0 : Int) ≤ (j : Int) := by omega
       have HSTEP := Aside0.mk (fJ_step (A := entN ca sa) (B := entN cb sb) (ca := ca) (i := i) (k := k) (j := j))
       have HRG := Aside0.mk hrg
       obtain ⟨cur, hcu⟩ : ∃ cur, cur = fJ (entN ca sa) (entN cb sb) ca i k j i j := ⟨_, rfl⟩
       rw [← hcu] at hcd HSTEP
       have HCU := Aside0.mk hcu
       clear hrow hcur hfr ho hcu hrg
       go_wp2
       refine start_ (n := 14) (S := fun w' => w'.cell? ⟨g0, i, none⟩ = some (.slice (some ⟨rw_, 0, none⟩) cb cb) ∧ w'.cell? ⟨rw_, j, none⟩ = some (.int .u8 cur)) (ds := [13]) #[false, false, false, false, false, false, false, false, false, false, false, false, false, false] (by kernel_rfl) rfl rfl ⟨hod, hcd⟩ (fun hHeld => ?_)
       refine with_tabW rg21_17_tab rg21_17_bits (fun HT_ HW_ => ?_)
       obtain ⟨W2, hW2⟩ : ∃ W, W = wr.drew := ⟨_, rfl⟩
       rw [← hW2] at hHeld HGd HTd HKd HBd HRd hod hcd hfd ⊢
       have HG6 := Aside0.mk HGd
       have HT6 := Aside0.mk HTd
       have HK6 := Aside0.mk HKd
       have HB6 := Aside0.mk HBd
       have HR6 := Aside0.mk HRd
       clear hW2 HGd HTd HKd HBd HRd hod hy
       refine pure_ (i := 0) (N := some 71) (v := ?_) (a' := ?_) #[true, false, false, false, false, false, false, false, false, false, false, false, false, false] rfl rfl (any_of HT_.out (by kernel_rfl)) (fun _ _ _ h => h) (Or.inl ⟨by rfl, ?_⟩) ?_ ?_
       rotate_left
       ·intro w'
        go_simp
        with_reducible rfl
       rotate_left
       ·simp only [Act.put, List.setIfInBounds_toArray, List.set_cons_zero, List.set_cons_succ, i64_w, i32_w]
        rfl
       refine pure_ (i := 1) (N := some 72) (v := ?_) (a' := ?_) #[true, true, false, false, false, false, false, false, false, false, false, false, false, false] rfl rfl (any_of HT_.out (by kernel_rfl)) (fun _ _ _ h => h) (Or.inl ⟨by rfl, ?_⟩) ?_ ?_
       rotate_left
       ·intro w'
        go_simp
        with_reducible rfl
       rotate_left
       ·simp only [Act.put, List.setIfInBounds_toArray, List.set_cons_zero, List.set_cons_succ, i64_w, i32_w]
        rfl
       refine pure_ (i := 2) (N := some 73) (v := ?_) (a' := ?_) #[true, true, true, false, false, false, false, false, false, false, false, false, false, false] rfl rfl (any_of HT_.out (by kernel_rfl)) (fun _ _ _ h => h) (Or.inl ⟨by rfl, ?_⟩) ?_ ?_
       rotate_left
       ·intro w'
        go_simp
        with_reducible rfl
       rotate_left
       ·simp only [Act.put, List.setIfInBounds_toArray, List.set_cons_zero, List.set_cons_succ, i64_w, i32_w]
        rfl
       refine take_ (i := 3) (N := some 74) (v := ?_) (a' := ?_) #[true, true, true, true, false, false, false, false, false, false, false, false, false, false] rfl rfl (take_ofW HT_.out HW_.out (by kernel_rfl)) (fun _ _ _ h => h) (Or.inl ⟨by rfl, ?_⟩) hHeld ?_ ?_
       rotate_left
       ·rintro w' ⟨s0, s1⟩
        go_simp
        with_reducible rfl
       rotate_left
       ·simp only [Act.put, List.setIfInBounds_toArray, List.set_cons_zero, List.set_cons_succ, i64_w, i32_w]
        rfl
       refine pure_ (i := 4) (N := some 75) (v := ?_) (a' := ?_) #[true, true, true, true, true, false, false, false, false, false, false, false, false, false] rfl rfl (any_of HT_.out (by kernel_rfl)) (fun _ _ _ h => h) (Or.inl ⟨by rfl, ?_⟩) ?_ ?_
       rotate_left
       ·intro w'
        go_simp
        with_reducible rfl
       rotate_left
       ·simp only [Act.put, List.setIfInBounds_toArray, List.set_cons_zero, List.set_cons_succ, i64_w, i32_w]
        rfl
       refine pure_ (i := 5) (N := some 76) (v := ?_) (a' := ?_) #[true, true, true, true, true, true, false, false, false, false, false, false, false, false] rfl rfl (any_of HT_.out (by kernel_rfl)) (fun _ _ _ h => h) (Or.inl ⟨by rfl, ?_⟩) ?_ ?_
       rotate_left
       ·intro w'
        go_simp
        with_reducible rfl
       rotate_left
       ·simp only [Act.put, List.setIfInBounds_toArray, List.set_cons_zero, List.set_cons_succ, i64_w, i32_w]
        rfl
       refine take_ (i := 6) (N := some 77) (v := ?_) (a' := ?_) #[true, true, true, true, true, true, true, false, false, false, false, false, false, false] rfl rfl (take_ofW HT_.out HW_.out (by kernel_rfl)) (fun _ _ _ h => h) (Or.inl ⟨by rfl, ?_⟩) hHeld ?_ ?_
       rotate_left
       ·rintro w' ⟨s0, s1⟩
        go_simp
        with_reducible rfl
       rotate_left
       ·simp only [Act.put, List.setIfInBounds_toArray, List.set_cons_zero, List.set_cons_succ, i64_w, i32_w]
        rfl
       refine pure_ (i := 7) (N := some 78) (v := ?_) (a' := ?_) #[true, true, true, true, true, true, true, true, false, false, false, false, false, false] rfl rfl (any_of HT_.out (by kernel_rfl)) (fun _ _ _ h => h) (Or.inl ⟨by rfl, ?_⟩) ?_ ?_
       rotate_left
       ·intro w'
        go_simp
        with_reducible rfl
       rotate_left
       ·simp only [Act.put, List.setIfInBounds_toArray, List.set_cons_zero, List.set_cons_succ, i64_w, i32_w]
        rfl
       refine pure_ (i := 8) (N := some 79) (v := ?_) (a' := ?_) #[true, true, true, true, true, true, true, true, true, false, false, false, false, false] rfl rfl (any_of HT_.out (by kernel_rfl)) (fun _ _ _ h => h) (Or.inl ⟨by rfl, ?_⟩) ?_ ?_
       rotate_left
       ·intro w'
        go_simp
        with_reducible rfl
       rotate_left
       ·simp only [Act.put, List.setIfInBounds_toArray, List.set_cons_zero, List.set_cons_succ, i64_w, i32_w]
        rfl
       refine pure_ (i := 9) (N := some 80) (v := ?_) (a' := ?_) #[true, true, true, true, true, true, true, true, true, true, false, false, false, false] rfl rfl (any_of HT_.out (by kernel_rfl)) (fun _ _ _ h => h) (Or.inl ⟨by rfl, ?_⟩) ?_ ?_
       rotate_left
       ·intro w'
        go_simp
        with_reducible rfl
       rotate_left
       ·simp only [Act.put, List.setIfInBounds_toArray, List.set_cons_zero, List.set_cons_succ, i64_w, i32_w]
        rfl
       refine one_ (i := 10) (N := some 81) #[true, true, true, true, true, true, true, true, true, true, true, false, false, false] rfl rfl (one_of HT_.out (by kernel_rfl)) (by decide) (fun K hK => ?_)
       (refine goes_ Try.func36 (by kernel_rfl) rfl #[.pointer (some ⟨gf, 0, none⟩), .int .u8 ((entN ca sa i k : Nat) : Int), .int .u8 (toI (entN cb sb) k j)] (by rfl) rfl rfl (by (try simp only [List.map_toArray, List.map_cons, List.map_nil]); first | done | rfl) ?_; refine (gMul gf _ _ _ HT6.out HBY1.out HBY2.out).mono ?_; rintro e w' ⟨rfl, nd, rfl⟩; refine ⟨_, rfl, ?_⟩)
       refine hK.out _ _ hHeld (fun hHeld => ?_)
       clear hK K
       try simp only [Act.put, List.setIfInBounds_toArray, List.set_cons_zero, List.set_cons_succ, i64_w, i32_w]
       refine pure_ (i := 11) (N := some 82) (v := ?_) (a' := ?_) #[true, true, true, true, true, true, true, true, true, true, true, true, false, false] rfl rfl (any_of HT_.out (by kernel_rfl)) (fun _ _ _ h => h) (Or.inl ⟨by rfl, ?_⟩) ?_ ?_
       rotate_left
       ·intro w'
        go_simp
        with_reducible rfl
       rotate_left
       ·simp only [Act.put, List.setIfInBounds_toArray, List.set_cons_zero, List.set_cons_succ, i64_w, i32_w]
        rfl
       refine pure_ (i := 12) (N := some 83) (v := ?_) (a' := ?_) #[true, true, true, true, true, true, true, true, true, true, true, true, true, false] rfl rfl (any_of HT_.out (by kernel_rfl)) (fun _ _ _ h => h) (Or.inl ⟨by rfl, ?_⟩) ?_ ?_
       rotate_left
       ·intro w'
        go_simp
        with_reducible rfl
       rotate_left
       ·simp only [Act.put, List.setIfInBounds_toArray, List.set_cons_zero, List.set_cons_succ, i64_w, i32_w]
        rfl
       have hzn : (W2.drewN nd).cell? ⟨rw_, j, none⟩ = some (.int .u8 cur) := hcd
       have hfn : (W2.drewN nd).frozen? ⟨rw_, j, none⟩ = false := hfd
       have HG7 := Aside0.mk (HG6.out.drewN nd)
       have HK7 : Aside0 (KeepBut w8 (W2.drewN nd) g0 none) := ⟨HK6.out⟩
       have HB7 := Aside0.mk (pw_below_drewN HB6.out nd)
       have HR7 : Aside0 (Br (W2.drewN nd) rk cb (toI (entN cb sb) k)) := ⟨HR6.out⟩
       clear hcd hfd
       generalize W2.drewN nd = W3 at *
       refine last_ (i := 13) (N := none) #[true, true, true, true, true, true, true, true, true, true, true, true, true, true] rfl rfl (one_of HT_.out (by kernel_rfl)) (by decide) (fun K hK => ?_)
       (refine skip_ (w1 := ?_) (by rfl) rfl ?_ ?_; rotate_left; · (go_simp; rfl))
       refine hK.out _ _ ?_
       clear hK K
       try simp only [Act.put, List.setIfInBounds_toArray, List.set_cons_zero, List.set_cons_succ, i64_w, i32_w]
       refine done_ (done_of HT_.out (by kernel_rfl)) ?_
       go_wp2
       go_roundw
       case rel =>
        refine ⟨j + 1, by go_num, hjl, ⟨(HG7.out.set HRI.out hjl _).congr fun a b _ _ => ?_⟩, ⟨?_⟩, ⟨below_set HB7.out HRG.out⟩, ⟨HR7.out.keep (Below.heap_setCell W3 ⟨rw_, j, none⟩ _ rk ?_)⟩⟩
        ·rw [← fJ_next]
         exact congrArg (fun z => if a = i ∧ b = j then z else _) HSTEP.out
        ·have hge := HNW2.out _ (List.mem_of_getElem? HRI.out)
         simp only at hge
         exact ⟨by simpa [World.setCell] using HK7.out.1, fun x hx hg hr => (Below.heap_setCell W3 ⟨rw_, j, none⟩ _ x (by simp only; omega)).trans (HK7.out.2 x hx hg hr)⟩
        ·have hge := HNW2.out _ (List.mem_of_getElem? HRI.out)
         have hlt8 := HRLT.out
         simp only at hge ⊢
         omega
       case measure => simp [intOf]; omega
      ·obtain rfl : j = cb := by omega
       go_wp2
       go_roundw
       case rel => exact ⟨k + 1, by go_num, hkl, ⟨HG5.out.congr fun a b _ hb => fJ_all hb⟩, HK5, HB5⟩
       case measure => simp [intOf]; omega
    ·obtain rfl : k = ca := by omega
     go_wp2
     go_roundw
     case rel => exact ⟨i + 1, rs2, by go_num, hlt, HL2, ⟨HG4.out.congr fun a b _ _ => fJ_end⟩, HK4, HB4, HNW2⟩
     case measure => simp [intOf]; omega
  ·obtain rfl : i = ra := by omega
   have hG := HG.out
   rw [gpart_full HL.out] at hG
   have HRW := Aside0.mk (hG.rows HL.out)
   have HCP := Aside0.mk (Kd.R_reads' hG.out).2.1
   have HQ9 := Aside0.mk (keep_blk HK.out HZC.out HQ8.out (by decide))
   clear hG
   go_wp2_with (go_at_call 31; refine (matrix_calls g0 i cb cap0 (toI (mm ca (entN ca sa) (entN cb sb))) _ hra0 hra1 hcb0 hcb1 HRW.out HCP.out (fun a b _ _ => toI_by (mm_by _ _ _) a b)).mono ?_; rintro e w9 ⟨rfl, hb⟩; have hq := blk_below HQ9.out hb; have q0 : w9.cell? ⟨gq, 0, none⟩ = some (.int .i64 0) := (blk_cell hq 0).trans rfl; have q1 : w9.cell? ⟨gq, 1, none⟩ = some (.int .i64 0) := (blk_cell hq 1).trans rfl; have q2 : w9.cell? ⟨gq, 2, none⟩ = some (.string ⟨#[]⟩) := (blk_cell hq 2).trans rfl; have z0 := blk_frozen hq 0; have z1 := blk_frozen hq 1; have z2 := blk_frozen hq 2; have HQf := Aside0.mk hq; have HBf := Aside0.mk (below_step HB.out hb); clear hq hb)
   exact mr_end i cb (cellsOf i cb (toI (mm ca (entN ca sa) (entN cb sb)))) 0 rfl rfl rfl HQf.out (by kernel_rfl) ⟨rfl, below_set (below_set (below_set HBf.out HQ.out) HQ.out) HQ.out⟩
end Go.Proofs.Ytoghhpkmficnmaa.Al

/- matrix.Mul in the printer's form. -/
namespace Go.Proofs.Ytoghhpkmficnmaa.Al
open Go.RowKit Go.Proofs.Ytoghhpkmficnmaa.GfRef Go.Proofs.Ytoghhpkmficnmaa.Base Go.Proofs.Ytoghhpkmficnmaa.Grid Go.Proofs.YtoghhpkmficnmaaW.PrintWords
set_option linter.unusedVariables false
def matrix_Mul.f (a0_0 a0_1 : Int) (a0_2 : ByteArray) (a1_0 a1_1 : Int) (a1_2 : ByteArray) : Option (Int × Int × ByteArray × Int) := some (mulV a0_0 a0_1 a0_2 a1_0 a1_1 a1_2)
theorem matrix_Mul.calls (a0_0 : Int) (a0_1 : Int) (a0_2 : ByteArray) (a1_0 : Int) (a1_1 : Int) (a1_2 : ByteArray) (r1 r2 : Int) (r3 : ByteArray) (r4 : Int) (w : World) (h : matrix_Mul.f a0_0 a0_1 a0_2 a1_0 a1_1 a1_2 = some (r1, r2, r3, r4)) :
  Calls Try.prog 21 #[.agg #[.int .i64 a0_0, .int .i64 a0_1, .string a0_2], .agg #[.int .i64 a1_0, .int .i64 a1_1, .string a1_2]] w fun e w' => e = .returned (.tuple #[.agg #[.int .i64 r1, .int .i64 r2, .string r3], .int .i64 r4]) ∧ Below w.heap.size w w' := by
 have h' := Option.some.inj h
 clear h
 unfold mulV at h'
 by_cases hc : okM a0_0 a0_1 a0_2 ∧ okM a1_0 a1_1 a1_2 ∧ a0_1 = a1_0
 ·rw [if_pos hc] at h'
  obtain ⟨h1, h2, rfl⟩ := hc
  obtain ⟨ra, rfl⟩ := Int.eq_ofNat_of_zero_le (show 0 ≤ a0_0 by have := h1.1; omega)
  obtain ⟨ca, rfl⟩ := Int.eq_ofNat_of_zero_le (show 0 ≤ a0_1 by have := h1.2.2.1; omega)
  obtain ⟨cb, rfl⟩ := Int.eq_ofNat_of_zero_le (show 0 ≤ a1_1 by have := h2.2.2.1; omega)
  injection h' with e1 h'
  injection h' with e2 h'
  injection h' with e3 e4
  subst e1 e2 e3 e4
  exact mul_good ra ca a0_2 cb a1_2 w h1 h2
 ·rw [if_neg hc] at h'
  injection h' with e1 h'
  injection h' with e2 h'
  injection h' with e3 e4
  subst e1 e2 e3 e4
  exact mul_bad a0_0 a0_1 a0_2 a1_0 a1_1 a1_2 w hc
end Go.Proofs.Ytoghhpkmficnmaa.Al

/- matrix.Identity in the printer's form. -/
namespace Go.Proofs.Ytoghhpkmficnmaa.Al
open Go.RowKit Go.Proofs.Ytoghhpkmficnmaa.GfRef Go.Proofs.Ytoghhpkmficnmaa.Base Go.Proofs.Ytoghhpkmficnmaa.Grid Go.Proofs.YtoghhpkmficnmaaW.PrintWords
set_option linter.unusedVariables false
def idV (n : Int) : MR := if 1 ≤ n ∧ n ≤ 255 then (n, n, cellsOf n.toNat n.toNat ixI, 0) else errM 1
def matrix_Identity.f (a0 : Int) : Option (Int × Int × ByteArray × Int) := some (idV a0)
theorem matrix_Identity.calls (a0 : Int) (r1 r2 : Int) (r3 : ByteArray) (r4 : Int) (w : World) (h : matrix_Identity.f a0 = some (r1, r2, r3, r4)) :
  Calls Try.prog 16 #[.int .i64 a0] w fun e w' => e = .returned (.tuple #[.agg #[.int .i64 r1, .int .i64 r2, .string r3], .int .i64 r4]) ∧ Below w.heap.size w w' := by
 have h' := Option.some.inj h
 clear h
 have hi := ident_calls a0 w
 unfold idV at h'
 by_cases hc : 1 ≤ a0 ∧ a0 ≤ 255
 ·rw [if_pos hc] at h' hi
  injection h' with e1 h'
  injection h' with e2 h'
  injection h' with e3 e4
  subst e1 e2 e3 e4
  exact hi
 ·rw [if_neg hc] at h' hi
  injection h' with e1 h'
  injection h' with e2 h'
  injection h' with e3 e4
  subst e1 e2 e3 e4
  exact hi
end Go.Proofs.Ytoghhpkmficnmaa.Al

/- matrix.Pick in the printer's form. -/
namespace Go.Proofs.Ytoghhpkmficnmaa.Al
open Go.RowKit Go.Proofs.Ytoghhpkmficnmaa.GfRef Go.Proofs.Ytoghhpkmficnmaa.Base Go.Proofs.Ytoghhpkmficnmaa.Grid Go.Proofs.YtoghhpkmficnmaaW.PrintWords
set_option linter.unusedVariables false
def matrix_Pick.f (a0_0 a0_1 : Int) (a0_2 : ByteArray) (l1 : List Int) : Option (Int × Int × ByteArray × Int) := some (pickV a0_0 a0_1 a0_2 l1)
theorem matrix_Pick.calls (a0_0 : Int) (a0_1 : Int) (a0_2 : ByteArray) (A1 : Option Addr) (c1 : Nat) (l1 : List Int) (r1 r2 : Int) (r3 : ByteArray) (r4 : Int) (w : World) (hr1 : Kd.C (Kd.int .i64) w A1 l1.length l1) (hc1 : l1.length ≤ c1) (h : matrix_Pick.f a0_0 a0_1 a0_2 l1 = some (r1, r2, r3, r4)) :
  Calls Try.prog 14 #[.agg #[.int .i64 a0_0, .int .i64 a0_1, .string a0_2], .slice A1 l1.length c1] w fun e w' => e = .returned (.tuple #[.agg #[.int .i64 r1, .int .i64 r2, .string r3], .int .i64 r4]) ∧ Below w.heap.size w w' := by
 have h' := Option.some.inj h
 clear h
 by_cases hc : okM a0_0 a0_1 a0_2
 ·obtain ⟨k, rfl⟩ := Int.eq_ofNat_of_zero_le (show 0 ≤ a0_0 by have := hc.1; omega)
  obtain ⟨m, rfl⟩ := Int.eq_ofNat_of_zero_le (show 0 ≤ a0_1 by have := hc.2.2.1; omega)
  exact pick_good k m a0_2 A1 c1 l1 w hc hr1 (r1, r2, r3, r4) h'
 ·unfold pickV at h'
  rw [if_neg hc] at h'
  injection h' with e1 h'
  injection h' with e2 h'
  injection h' with e3 e4
  subst e1 e2 e3 e4
  exact pick_bad a0_0 a0_1 a0_2 A1 c1 l1 w hc
end Go.Proofs.Ytoghhpkmficnmaa.Al

/- made: a matrix of some rows and columns, of a text's bytes (missing ones are 0), by its contract. -/
namespace Go.Proofs.Ytoghhpkmficnmaa.Al
open Go.RowKit Go.Proofs.Ytoghhpkmficnmaa.GfRef Go.Proofs.Ytoghhpkmficnmaa.Base Go.Proofs.Ytoghhpkmficnmaa.Bytes Go.Proofs.Ytoghhpkmficnmaa.Grid Go.Proofs.YtoghhpkmficnmaaW.PrintWords Go.Proofs.YtoghhpkmficnmaaW.PrintLast Go.Proofs.YtoghhpkmficnmaaW.PrintMore
set_option linter.unusedVariables false
set_option linter.unusedSimpArgs false
def madeB (s : ByteArray) (k : Nat) : Int := if k < s.size then bt s k else 0
def madeS (n : Nat) (s : ByteArray) : ByteArray := strOfNums (listOf n (madeB s))
theorem madeB_by (s : ByteArray) (k : Nat) : Byte (madeB s k) := by unfold madeB; split; exact byte_bt s _; unfold Byte; omega
/-- copy(dst, s): as many bytes as both have. -/
theorem run_copy_min {P : Program} (w : World) (dT sT ty elem : TypeId) (b dLen dCap : Nat) (t : ByteArray)
  (hu : P.underlying dT = some (.slice elem)) (hz : ∀ w, (Go.sizeOf elem).run P w = .ok 1 w)
  (hc : ∀ j, j < dLen → (w.cell? ⟨b, 0 + j, none⟩).isSome = true) (hf : ∀ j, j < dLen → w.frozen? ⟨b, 0 + j, none⟩ = false) :
  (Builtin.copy_ #[dT, sT] ty #[.slice (some ⟨b, 0, none⟩) dLen dCap, .string t]).run P w = .ok (goInt (min t.size dLen : Nat)) (w.setCells b 0 ((t.data.toList.map fun x => Value.int .u8 (x.toNat : Int)).take (min t.size dLen))) := by
 have hl : ((t.data.toList.map fun x => Value.int .u8 (x.toNat : Int)).take (min t.size dLen)).length = min t.size dLen := by
  rw [List.length_take, List.length_map]
  have : t.data.toList.length = t.size := data_length t
  omega
 have hst := run_storeCells_cells (P := P) b 0 ((t.data.toList.map fun x => Value.int .u8 (x.toNat : Int)).take (min t.size dLen)) 0 w (by rw [hl]; intro j hj; simpa using hc j (by omega)) (by rw [hl]; intro j hj; simpa using hf j (by omega)) (by
  intro v hv
  obtain ⟨x, _, rfl⟩ := List.mem_map.1 (List.mem_of_mem_take hv)
  rfl)
 have hm : Nat.min t.size dLen = min t.size dLen := rfl
 simp [Builtin.copy_, run_underlying hu, Builtin.lenOf, Builtin.firstCells, hz]
 simp at hst
 rw [hst]
 rfl
theorem br_copied {W : World} {g n : Nat} {cs : Array Value} (h : W.heap[g]? = some (.cells cs 5 (0, 0))) (hn : cs.size = n) (h0 : ∀ j, j < n → cs[j]? = some (.int .u8 0)) (t : ByteArray) :
  Br (W.setCells g 0 ((t.data.toList.map fun x => Value.int .u8 (x.toNat : Int)).take (min t.size n))) g n (madeB t) := by
 have hl : ((t.data.toList.map fun x => Value.int .u8 (x.toNat : Int)).take (min t.size n)).length = min t.size n := by
  rw [List.length_take, List.length_map]
  have : t.data.toList.length = t.size := data_length t
  omega
 obtain ⟨cur, h3, h4, h5⟩ := setCells_row ((t.data.toList.map fun x => Value.int .u8 (x.toNat : Int)).take (min t.size n)) 0 W cs h (by rw [hl]; omega)
 refine ⟨cur, (0, 0), h3, fun j hj => ?_, fun j _ hc => by omega⟩
 rw [← Array.getElem?_toList, h5, List.take_zero, List.nil_append, Nat.zero_add]
 unfold madeB
 have hd : t.data.toList.length = t.size := data_length t
 by_cases hjt : j < t.size
 ·rw [if_pos hjt, List.getElem?_append_left (by rw [hl]; omega), List.getElem?_take, if_pos (by omega), List.getElem?_map]
  have h1 : j < (B t).length := by rw [B_len]; exact hjt
  rw [bt_B t j h1]
  rw [show t.data.toList = B t from rfl, List.getElem?_eq_getElem h1]
  rfl
 ·rw [if_neg hjt, List.getElem?_append_right (by rw [hl]; omega), hl, List.getElem?_drop, Array.getElem?_toList]
  rw [show min t.size n + (j - min t.size n) = j by omega]
  exact h0 j hj
def corncriblaw02_made.f (a0 a1 : Int) (a2 : ByteArray) : Option (Int × Int × ByteArray) := if 1 ≤ a0 ∧ a0 ≤ 6 ∧ 1 ≤ a1 ∧ a1 ≤ 6 then some (a0, a1, madeS (a0.toNat * a1.toNat) a2) else none
set_option maxHeartbeats 8000000 in
set_option maxRecDepth 100000 in
theorem made_calls (r c : Nat) (s : ByteArray) (w : World) (hr0 : 1 ≤ r) (hr1 : r ≤ 6) (hc0 : 1 ≤ c) (hc1 : c ≤ 6) :
  Calls Try.prog 23 #[.int .i64 r, .int .i64 c, .string s] w fun e w' => e = .returned (.agg #[.int .i64 r, .int .i64 c, .string (madeS (r * c) s)]) ∧ Below w.heap.size w w' := by
 have hrc : r * c ≤ 6 * 6 := Nat.mul_le_mul hr1 hc1
 have hmk := print_make (P := Try.prog) 54 5 .u8 1 Try.underlying54 info5 (by decide) (r * c) (by omega)
 have e1 : IntKind.i64.wrap ((r : Int) * (c : Int)) = ((r * c : Nat) : Int) := by rw [IntKind.wrap_i64, ← Int.natCast_mul]; omega
 obtain ⟨n, hn⟩ : ∃ n, n = r * c := ⟨_, rfl⟩
 rw [← hn] at hmk e1 hrc ⊢
 have HN := Aside0.mk hn
 clear hn
 go_enter Try.func23, Try.ntmps23
 go_upto_region 2 with ((with_reducible refine gate_dst (N := 6) rfl ?_); refine box_event ?hg (N := 6) ?hd (cs := #[.int .i64 0, .int .i64 0, .string ⟨#[]⟩]) (t := 24) ?hr ?_; (case hd => rfl); (case hg => rfl); (case hr => first | (go_simp; done) | (go_simp; rfl)); intro gq hg w1 hbox hb; have HQ := Aside0.mk (Nat.le_of_eq hg.symm); have HK1 := Aside0.mk hbox; have HB1 := Aside0.mk hb; clear hg hbox hb)
 have hblk := blk_new w1 (.cells (madeCells #[.int .u8 0] n) 5 (0, 0))
 have HB2 := Aside0.mk (HB1.out.alloc HB1.out.size (.cells (madeCells #[.int .u8 0] n) 5))
 have HK2 := Aside0.mk (blk_alloc HK1.out (.cells (madeCells #[.int .u8 0] n) 5))
 have hms : (madeCells #[Value.int .u8 0] n).size = n := by simp [madeCells]
 have hcopy := run_copy_min (P := Try.prog) (w1.alloc (.cells (madeCells #[.int .u8 0] n) 5)) 54 9 3 5 w1.heap.size n n s Try.underlying54 (by first | exact Try.sizeOf5 | (intro w; simp [Go.sizeOf]; done)) (fun j hj => by rw [Nat.zero_add, cell_of_row _ _ _ _ _ _ hblk, made_get _ _ _ hj]; rfl) (fun j hj => blk_frozen hblk _)
 have hbr := br_copied hblk hms (fun j hj => made_get _ _ _ hj) s
 have HB3 := Aside0.mk (show Below w.heap.size w ((w1.alloc (.cells (madeCells #[.int .u8 0] n) 5)).setCells w1.heap.size 0 ((s.data.toList.map fun x => Value.int .u8 (x.toNat : Int)).take (min s.size n))) from by
  obtain ⟨s1, s2, s3, s4⟩ := setCells_same w1.heap.size ((s.data.toList.map fun x => Value.int .u8 (x.toNat : Int)).take (min s.size n)) 0 (w1.alloc (.cells (madeCells #[.int .u8 0] n) 5))
  refine HB2.out.trans ⟨s1, s2, s3, by rw [s4]; exact Nat.le_refl _, fun k hk => setCells_far _ _ k (by have := HB1.out.size; omega)⟩)
 have HK3 := Aside0.mk ((setCells_far (w := w1.alloc (.cells (madeCells #[.int .u8 0] n) 5)) ((s.data.toList.map fun x => Value.int .u8 (x.toNat : Int)).take (min s.size n)) 0 gq (Nat.ne_of_lt (blk_lt HK1.out))).trans HK2.out)
 have HBR := Aside0.mk hbr
 clear hbr hms hblk
 go_upto_region 3 with ((with_reducible refine gate_dst (N := 14) rfl ?_); refine Lib.wpList_copy_run _ rfl _ _ 54 9 rfl _ _ rfl rfl hcopy ?_)
 obtain ⟨W2, hW2⟩ : ∃ W, W = (w1.alloc (.cells (madeCells #[.int .u8 0] n) 5)).setCells w1.heap.size 0 ((s.data.toList.map fun x => Value.int .u8 (x.toNat : Int)).take (min s.size n)) := ⟨_, rfl⟩
 rw [← hW2] at HB3 HK3 HBR ⊢
 have hst := Bc.string (c := n) Try.underlying54 Try.underlying5 Try.underlying9 HBR.out.bc (by omega)
 have q0 : W2.cell? ⟨gq, 0, none⟩ = some (.int .i64 0) := (blk_cell HK3.out 0).trans rfl
 have q1 : W2.cell? ⟨gq, 1, none⟩ = some (.int .i64 0) := (blk_cell HK3.out 1).trans rfl
 have q2 : W2.cell? ⟨gq, 2, none⟩ = some (.string ⟨#[]⟩) := (blk_cell HK3.out 2).trans rfl
 have z0 := blk_frozen HK3.out 0
 have z1 := blk_frozen HK3.out 1
 have z2 := blk_frozen HK3.out 2
 clear hW2 hcopy hmk e1
 go_wp2
 have hb1 := blk_set (blk_set (blk_set HK3.out 0 (.int .i64 r)) 1 (.int .i64 c)) 2 (.string (madeS n s))
 exact bodyPost_ret (results_cell_row rfl _ _ gq 24 #[.int .i64 r, .int .i64 c, .string (madeS n s)] (0, 0) _ rfl hb1 Try.underlying24 rfl (by kernel_rfl)) rfl ⟨rfl, below_set (below_set (below_set HB3.out HQ.out) HQ.out) HQ.out⟩
theorem corncriblaw02_made.calls (a0 a1 : Int) (a2 : ByteArray) (r1 r2 : Int) (r3 : ByteArray) (w : World) (h : corncriblaw02_made.f a0 a1 a2 = some (r1, r2, r3)) :
  Calls Try.prog 23 #[.int .i64 a0, .int .i64 a1, .string a2] w fun e w' => e = .returned (.agg #[.int .i64 r1, .int .i64 r2, .string r3]) ∧ Below w.heap.size w w' := by
 unfold corncriblaw02_made.f at h
 split at h
 case isFalse => cases h
 rename_i hc
 obtain ⟨h1, h2, h3, h4⟩ := hc
 have h' := Option.some.inj h
 injection h' with e1 h'
 injection h' with e2 e3
 subst e1 e2 e3
 obtain ⟨r, rfl⟩ := Int.eq_ofNat_of_zero_le (show 0 ≤ a0 by omega)
 obtain ⟨c, rfl⟩ := Int.eq_ofNat_of_zero_le (show 0 ≤ a1 by omega)
 rw [Int.toNat_natCast, Int.toNat_natCast]
 exact made_calls r c a2 w (by omega) (by omega) (by omega) (by omega)
end Go.Proofs.Ytoghhpkmficnmaa.Al

/- One function of the program comes to what its plain twin says. This text began as the kit's own print (print.py, made by cprint.sh) and was turned by split.py: it is no printed file. -/
namespace Go.Proofs.Ytoghhpkmficnmaa.Al
open Go.RowKit Go.Proofs.YtoghhpkmficnmaaW.PrintWords Go.Proofs.YtoghhpkmficnmaaW.PrintLast Go.Proofs.YtoghhpkmficnmaaW.PrintMore
attribute [local go_sem] max2_int min2_int max_two min_two max_three min_three max_four min_four   -- for this text's walks alone
set_option linter.unusedVariables false
set_option linter.unusedSimpArgs false

/-! ### corncriblaw02_side: function 24 -/
def corncriblaw02_side.f (a0 : Int) : Option (Int) := some (wrap64 (1 + (wrap64 (Int.tmod (IntKind.u64.wrap (a0)) 6))))
set_option maxHeartbeats 8000000 in
set_option maxRecDepth 100000 in
theorem corncriblaw02_side.calls (a0 : Int) (r : Int) (w : World) (h : corncriblaw02_side.f a0 = some r) :
  Calls Try.prog 24 #[.int .i64 a0] w fun e w' => e = .returned (.int .i64 r) ∧ Drawn0 w w' := by
 have H : (some (wrap64 (1 + (wrap64 (Int.tmod (IntKind.u64.wrap (a0)) 6))))) = some r := h
 clear h
 obtain rfl := Option.some.inj H
 go_enter Try.func24, Try.ntmps24
 go_wp2
 go_ret
 exact ⟨by first | rfl | (simp; done) | (simp [*]; done), by repeat (first | exact Drawn0.refl _ | apply Drawn0.step)⟩

-- NOT PRINTED: function 6 (corncriblaw02_MatrixRing)

end Go.Proofs.Ytoghhpkmficnmaa.Al

/- The program's matrices as plain functions: what the laws lean on. -/
namespace Go.Proofs.Ytoghhpkmficnmaa.Al
open Go.RowKit Go.Proofs.Ytoghhpkmficnmaa.GfMath Go.Proofs.Ytoghhpkmficnmaa.GfRef Go.Proofs.Ytoghhpkmficnmaa.Base Go.Proofs.Ytoghhpkmficnmaa.Bytes Go.Proofs.Ytoghhpkmficnmaa.Grid Go.Proofs.YtoghhpkmficnmaaW.PrintWords Go.Proofs.YtoghhpkmficnmaaW.PrintMore
set_option linter.unusedVariables false
def sideN (a : Int) : Nat := 1 + (a % 18446744073709551616 % 6).toNat
theorem sideN_b (a : Int) : 1 ≤ sideN a ∧ sideN a ≤ 6 := by unfold sideN; omega
theorem u64_wrap (a : Int) : IntKind.u64.wrap a = a % 18446744073709551616 := by unfold IntKind.wrap; simp [IntKind.signed, IntKind.bits]
theorem side_f (a : Int) : corncriblaw02_side.f a = some ((sideN a : Nat) : Int) := by
 unfold corncriblaw02_side.f sideN
 rw [u64_wrap, Int.tmod_eq_emod_of_nonneg (by omega), wrap_id (n := a % 18446744073709551616 % 6) (by omega) (by omega), wrap_id (by omega) (by omega)]
 congr 1
 omega
theorem works_f : corncriblaw02_works.f = some true := by
 unfold corncriblaw02_works.f matrix_Generator.f
 decide +kernel
theorem cellsOf_congr {n m : Nat} {f g : Nat → Nat → Int} (h : ∀ i j, i < n → j < m → f i j = g i j) : cellsOf n m f = cellsOf n m g := by
 unfold cellsOf
 congr 1
 refine listOf_congr fun k hk => ?_
 have hm : 0 < m := by
  rcases Nat.eq_zero_or_pos m with e | e
  ·rw [e, Nat.mul_zero] at hk; omega
  ·exact e
 exact h _ _ (by rw [Nat.div_lt_iff_lt_mul hm]; exact hk) (Nat.mod_lt _ hm)
theorem ent_cells {n m : Nat} {f : Nat → Nat → Int} (hb : ∀ i j, i < n → j < m → Byte (f i j)) {i j : Nat} (hi : i < n) (hj : j < m) : entN m (cellsOf n m f) i j = (f i j).toNat := by
 unfold entN
 rw [bt_cellsOf hb i j hi hj]
theorem ent_toI {n m : Nat} {A : Mx} (hA : By2 A) {i j : Nat} (hi : i < n) (hj : j < m) : entN m (cellsOf n m (toI A)) i j = A i j := by
 rw [ent_cells (fun i j _ _ => toI_by hA i j) hi hj]; rfl
theorem cells_ent {n m : Nat} {s : ByteArray} (hs : s.size = n * m) : cellsOf n m (toI (entN m s)) = s := by
 refine B_inj (List.ext_getElem (by rw [B_len, B_len, cellsOf_size, hs]) fun k h1 h2 => ?_)
 have hk : k < n * m := by rw [B_len, cellsOf_size] at h1; exact h1
 have hm : 0 < m := by
  rcases Nat.eq_zero_or_pos m with e | e
  ·rw [e, Nat.mul_zero] at hk; omega
  ·exact e
 have hi : k / m < n := by rw [Nat.div_lt_iff_lt_mul hm]; exact hk
 have e := bt_cellsOf (n := n) (m := m) (f := toI (entN m s)) (fun i j _ _ => toI_by (entN_by m s) i j) (k / m) (k % m) hi (Nat.mod_lt _ hm)
 have hkk : k / m * m + k % m = k := by rw [Nat.mul_comm]; exact Nat.div_add_mod k m
 rw [toI_ent, hkk, bt_B _ k h1, bt_B _ k h2] at e
 exact UInt8.toNat_inj.1 (by omega)
theorem ok_cells {n m : Nat} (f : Nat → Nat → Int) (hn : 1 ≤ n) (hn1 : n ≤ 255) (hm : 1 ≤ m) (hm1 : m ≤ 255) : okM n m (cellsOf n m f) :=
 ⟨by omega, by omega, by omega, by omega, by rw [cellsOf_size, Int.natCast_mul]⟩
theorem made_size (n : Nat) (s : ByteArray) : (madeS n s).size = n := by rw [madeS, strOfNums_size, listOf_length]
theorem ok_made {n m : Nat} (s : ByteArray) (hn : 1 ≤ n) (hn1 : n ≤ 6) (hm : 1 ≤ m) (hm1 : m ≤ 6) : okM n m (madeS (n * m) s) :=
 ⟨by omega, by omega, by omega, by omega, by rw [made_size, Int.natCast_mul]⟩
theorem made_f (a b : Int) (s : ByteArray) : corncriblaw02_made.f ((sideN a : Nat) : Int) ((sideN b : Nat) : Int) s = some (((sideN a : Nat) : Int), ((sideN b : Nat) : Int), madeS (sideN a * sideN b) s) := by
 have h1 := sideN_b a
 have h2 := sideN_b b
 unfold corncriblaw02_made.f
 rw [if_pos (by omega), Int.toNat_natCast, Int.toNat_natCast]
theorem mul_f {n m p : Nat} {s t : ByteArray} (h1 : okM n m s) (h2 : okM m p t) : matrix_Mul.f n m s m p t = some ((n : Int), (p : Int), cellsOf n p (toI (mm m (entN m s) (entN p t))), 0) := by
 unfold matrix_Mul.f mulV
 rw [if_pos ⟨h1, h2, rfl⟩]
 simp only [Int.toNat_natCast]
theorem pick_f {n m : Nat} {s : ByteArray} (h : okM n m s) {l : List Int} (ha : ∀ x, x ∈ l → 0 ≤ x ∧ x < n) (h1 : l ≠ []) (h2 : l.length ≤ 255) : matrix_Pick.f n m s l = some ((l.length : Int), (m : Int), cellsOf l.length m (pickF m s l), 0) := by
 unfold matrix_Pick.f pickV
 rw [if_pos h, if_neg (fun ⟨x, hx, hb⟩ => by have := ha x hx; omega), if_neg (by omega), if_neg h1, Int.toNat_natCast]
theorem getD_mem {l : List Int} {i : Nat} (h : i < l.length) : l.getD i 0 ∈ l := by
 rw [List.getD_eq_getElem?_getD, List.getElem?_eq_getElem h]; exact List.getElem_mem h
/-- What is picked, entry by entry. -/
theorem ent_pick {n m : Nat} {s : ByteArray} {l : List Int} {i j : Nat} (hi : i < l.length) (hj : j < m) : entN m (cellsOf l.length m (pickF m s l)) i j = entN m s (l.getD i 0).toNat j := by
 rw [ent_cells (fun i j _ _ => by unfold pickF; exact byte_bt s _) hi hj]
 rfl
/-- Of squares: a product with an inverse. -/
theorem inv_f {n : Nat} {s : ByteArray} (h : okM n n s) :
  (matrix_Inverse.f n n s = some (0, 0, ⟨#[]⟩, 20) ∧ ∃ v : Nat → Nat, (∀ j, v j < 256) ∧ (∃ j, j < n ∧ v j ≠ 0) ∧ ∀ i, i < n → xs n (fun j => mulN (entN n s i j) (v j)) = 0) ∨
  ∃ R : Mx, By2 R ∧ matrix_Inverse.f n n s = some ((n : Int), (n : Int), cellsOf n n (toI R), 0) ∧ (∀ i j, i < n → j < n → mm n R (entN n s) i j = Ix i j) ∧ (∀ i j, i < n → j < n → mm n (entN n s) R i j = Ix i j) := by
 unfold matrix_Inverse.f invV
 rw [if_pos ⟨h, rfl⟩]
 simp only [Int.toNat_natCast]
 rcases gauss (n := n) (entN_by n s) with ⟨q, hq, hb, h1, h2⟩ | ⟨hq, hv⟩
 ·right
  exact ⟨q.2, hb, by rw [hq], h1, h2⟩
 ·left
  exact ⟨by rw [hq]; rfl, hv⟩
end Go.Proofs.Ytoghhpkmficnmaa.Al

/- One function of the program comes to what its plain twin says. This text began as the kit's own print (print.py, made by cprint.sh) and was turned by split.py: it is no printed file. -/
namespace Go.Proofs.Ytoghhpkmficnmaa.Al
open Go.RowKit Go.Proofs.YtoghhpkmficnmaaW.PrintWords Go.Proofs.YtoghhpkmficnmaaW.PrintLast Go.Proofs.YtoghhpkmficnmaaW.PrintMore
attribute [local go_sem] max2_int min2_int max_two min_two max_three min_three max_four min_four   -- for this text's walks alone
set_option linter.unusedVariables false
set_option linter.unusedSimpArgs false

attribute [local go_sem high] eqA24
/-! ### corncribref02_One: function 35 -/
def corncribref02_One.l0 : Nat → Int → List Int → Int → Option (Int × Int × ByteArray)
 |0, _, _, _ => none
 |k + 1, x0, x3, x4 => if x4 < x0 then (if 0 ≤ (wrap64 ((wrap64 (x4 * x0)) + x4)) then (if (wrap64 ((wrap64 (x4 * x0)) + x4)) < (x3.length : Int) then (corncribref02_One.l0 k x0 (x3.set ((wrap64 ((wrap64 (x4 * x0)) + x4)) : Int).toNat 1) (wrap64 (x4 + 1))) else (none)) else (none)) else (some (x0, x0, strOfNums x3))
def corncribref02_One.f (k : Nat) (a0 : Int) : Option (Int × Int × ByteArray) := if 0 ≤ (wrap64 (a0 * a0)) then (if (wrap64 (a0 * a0) : Int).toNat ≤ 281474976710656 then (corncribref02_One.l0 k a0 (List.replicate (wrap64 (a0 * a0) : Int).toNat 0) 0) else (none)) else (none)
theorem corncribref02_One.mono_l : ∀ k, (∀ y0 y1 y2, LeO (corncribref02_One.l0 k y0 y1 y2) (corncribref02_One.l0 (k + 1) y0 y1 y2))
 |0 => fun _ _ _ r h => by simp [corncribref02_One.l0] at h
 |k + 1 => by
  have ih0 := corncribref02_One.mono_l k
  ·intro y0 y1 y2
   unfold corncribref02_One.l0
   repeat' first
   |(with_reducible exact ih0 _ _ _)
   |(with_reducible exact LeO.refl _)
   |(with_reducible exact LeO.none _)
   |(with_reducible refine LeO.ite ?_ ?_)
   |(with_reducible refine LeO.bind ?_ (fun _ => ?_))
   |exact ih0 _ _ _
   |exact LeO.none _
   |refine LeO.ite ?_ ?_
   |refine LeO.bind ?_ (fun _ => ?_)
theorem corncribref02_One.mono : ∀ a0 k, LeO (corncribref02_One.f k a0) (corncribref02_One.f (k + 1) a0) := by
 intro a0 k
 have ih0 := corncribref02_One.mono_l k
 unfold corncribref02_One.f
 repeat' first
   |(with_reducible exact ih0 _ _ _)
   |(with_reducible exact LeO.refl _)
   |(with_reducible exact LeO.none _)
   |(with_reducible refine LeO.ite ?_ ?_)
   |(with_reducible refine LeO.bind ?_ (fun _ => ?_))
   |exact ih0 _ _ _
   |exact LeO.none _
   |refine LeO.ite ?_ ?_
   |refine LeO.bind ?_ (fun _ => ?_)
set_option maxHeartbeats 8000000 in
set_option maxRecDepth 100000 in
theorem corncribref02_One.calls (k : Nat) (a0 : Int) (r1 : Int) (r2 : Int) (r3 : ByteArray) (w : World) (h : corncribref02_One.f k a0 = some (r1, r2, r3)) :
  Calls Try.prog 35 #[.int .i64 a0] w fun e w' => e = .returned (.agg #[.int .i64 r1, .int .i64 r2, .string r3]) ∧ Below w.heap.size w w' := by
 have hu24 := Try.underlying24
 have HB := Aside0.mk (Below.refl w.heap.size w)
 have H : (if 0 ≤ (wrap64 (a0 * a0)) then (if (wrap64 (a0 * a0) : Int).toNat ≤ 281474976710656 then (corncribref02_One.l0 k a0 (List.replicate (wrap64 (a0 * a0) : Int).toNat 0) 0) else (none)) else (none)) = some (r1, r2, r3) := h
 clear h
 obtain ⟨ji2, hji2⟩ : ∃ j_ : Int, (wrap64 (a0 * a0)) = j_ := ⟨_, rfl⟩
 replace H : (if 0 ≤ (ji2) then (if (ji2 : Int).toNat ≤ 281474976710656 then (corncribref02_One.l0 k a0 (List.replicate (ji2 : Int).toNat 0) 0) else (none)) else (none)) = some (r1, r2, r3) := by first | (rw [hji2] at H; exact H) | (simp only [hji2] at H ⊢; exact H)
 have hji2w : (IntKind.i64.wrap (a0 * a0)) = ji2 := (i64_w _).trans hji2
 by_cases c3 : 0 ≤ (ji2)
 ·rw [if_pos c3] at H
  have c3b0 := eq_true c3
  have c3b1 : decide (0 ≤ (ji2)) = true := decide_eq_true c3
  clear c3
  by_cases c4 : (ji2 : Int).toNat ≤ 281474976710656
  ·rw [if_pos c4] at H
   have c4b0 := eq_true c4
   have c4b1 : decide ((ji2 : Int).toNat ≤ 281474976710656) = true := decide_eq_true c4
   clear c4
   obtain ⟨y125, hy125⟩ : ∃ y_ : List Int, y_ = (List.replicate (ji2 : Int).toNat 0) := ⟨_, rfl⟩
   replace H : (corncribref02_One.l0 k a0 y125 0) = some (r1, r2, r3) := by first | (rw [hy125]; with_reducible exact H) | (have H2_ := (Option.bind_some _ _).symm.trans H; rw [hy125]; with_reducible exact H2_) | (have H2_ := (Option.bind_some _ _).symm.trans H; with_reducible exact H2_) | with_reducible exact H | (rw [hy125]; exact H) | exact H
   have Ny125 := Aside0.mk hy125
   clear hy125
   have H' := Aside0.mk H
   clear H
   go_enter Try.func35, Try.ntmps35
   go_wp2_with (first | ((with_reducible refine gate_dst (N := 2) rfl ?_); refine box_event ?hg (N := 2) ?hd (cs := #[.int .i64 0, .int .i64 0, .string (⟨#[]⟩ : ByteArray)]) (t := 24) ?hr ?_; (case hd => rfl); (case hg => rfl); (case hr => first | (go_simp; done) | (go_simp; rfl)); intro gb124 hg w5 hbox hb; have n0_ := Aside0.mk (below_step (by repeat (first | (with_reducible first | exact HB.out | apply below_alloc | apply pw_below_drewN | apply below_drew1) | exact HB.out)) hb); have n1_ := Aside0.mk (hbox); have n2_ := Aside0.mk ((by rw [hg]; exact (below_size (by repeat (first | (with_reducible first | exact HB.out | apply below_alloc | apply pw_below_drewN | apply below_drew1) | exact HB.out))) : w.heap.size ≤ gb124)); have n3_ := Aside0.mk ((by rw [hg]; exact (below_size (by repeat (first | (with_reducible first | exact HB.out | apply below_alloc | apply pw_below_drewN | apply below_drew1) | exact HB.out))) : w.heap.size ≤ gb124)); clear HB; have HB := n0_; have BK124 := n1_; have GW124 := n2_; have GE124 := n3_; clear n0_ n1_ n2_ n3_; clear hb hbox hg) | ((with_reducible refine gate_dst (N := 8) rfl ?_); refine Kd.R_make (Kd.int .u8) _ 5 rfl (N := 8) rfl 54 _ _ rfl ji2 rfl rfl Try.underlying54 (.int .u8 0) 1 info5 rfl (by decide) (by omega) 0 (ok := fun _ => True) (okp := fun _ => True) rfl (fun _ hk => hk) trivial (of_decide_eq_true (by first | (with_reducible assumption) | assumption)) (Nat.le_trans (Nat.mul_le_mul_right _ (of_decide_eq_true (by first | (with_reducible assumption) | assumption) : ji2.toNat ≤ 281474976710656)) (by omega)) (Below.refl _ _) (Nat.le_refl _) ?_; intro v126 w6 ho7 hb hg_ hnew_; clear hg_ hnew_; (first | rw [← Ny125.out] at ho7 | (simp only [Int.reduceToNat] at ho7; rw [← Ny125.out] at ho7)); have n0_ := Aside0.mk (Kd.R_lower ho7 (below_size (by repeat (first | (with_reducible first | exact HB.out | apply below_alloc | apply pw_below_drewN | apply below_drew1 | refine below_set ?_ GE124.out) | exact HB.out)))); have n1_ := Aside0.mk (blk_below (g := gb124) (o := .cells #[.int .i64 0, .int .i64 0, .string (⟨#[]⟩ : ByteArray)] 24 (0, 0)) (by (with_reducible repeat (first | refine blk_drewN ?_ _ | refine blk_drew ?_ | refine blk_alloc ?_ _)); exact BK124.out) hb); have n2_ := Aside0.mk (below_step (by repeat (first | (with_reducible first | exact HB.out | apply below_alloc | apply pw_below_drewN | apply below_drew1 | refine below_set ?_ GE124.out) | exact HB.out)) hb); clear BK124; clear HB; have HO127 := n0_; have BK124 := n1_; have HB := n2_; clear n0_ n1_ n2_; clear hb ho7))
   go_loopg [4] k (fun kq v4 w' => ∃ (x3_1 : List Int) (x4_1 : Int), v4 = .int .i64 x4_1 ∧ Aside0 (corncribref02_One.l0 kq a0 x3_1 x4_1 = some (r1, r2, r3)) ∧ Aside0 (kq ≤ k) ∧ Aside0 (Kd.R (Kd.int .u8) 5 w' w.heap.size (fun _ => True) v126 x3_1) ∧ Aside0 (w'.heap[gb124]? = some (.cells #[.int .i64 0, .int .i64 0, .string (⟨#[]⟩ : ByteArray)] 24 (0, 0))) ∧ Aside0 (Below w.heap.size w w'))
   case atStart => exact ⟨(y125), (0), (by first | rfl | (simp; done) | (simp [*]; done)), H', ⟨Nat.le_refl _⟩, ⟨by (with_reducible repeat (first | apply Kd.R_alloc | apply Kd.R_drewN | apply Kd.R_drew)); exact HO127.out⟩, ⟨by (with_reducible repeat (first | refine blk_drewN ?_ _ | refine blk_drew ?_ | refine blk_alloc ?_ _)); exact BK124.out⟩, ⟨by repeat (first | (with_reducible first | exact HB.out | apply below_alloc | apply pw_below_drewN | apply below_drew1 | refine below_set ?_ GE124.out) | exact HB.out)⟩⟩
   case round =>
    clear H'
    (try clear p2); (try clear c3); (try clear c3b0); (try clear c3b1); (try clear c4); (try clear c4b0); (try clear c4b1); (try clear p6)
    obtain ⟨x3_1, x4_1, rfl, HA, HK1, HO_3, BK124, HB⟩ := hrel
    cases gk with
    |zero => exact absurd HA.out (by simp [corncribref02_One.l0])
    |succ k1 =>
     have H := HA.out
     clear HA
     simp only [corncribref02_One.l0] at H
     by_cases c8 : x4_1 < a0
     ·rw [if_pos c8] at H
      have c8b0 : decide (x4_1 < a0) = true := decide_eq_true c8
      clear c8
      obtain ⟨ji9, hji9⟩ : ∃ j_ : Int, (wrap64 ((wrap64 (x4_1 * a0)) + x4_1)) = j_ := ⟨_, rfl⟩
      replace H : (if 0 ≤ (ji9) then (if (ji9) < (x3_1.length : Int) then (corncribref02_One.l0 k1 a0 (x3_1.set ((ji9) : Int).toNat 1) (wrap64 (x4_1 + 1))) else (none)) else (none)) = some (r1, r2, r3) := by first | (rw [hji9] at H; exact H) | (simp only [hji9] at H ⊢; exact H)
      have hji9w : (IntKind.i64.wrap ((wrap64 (x4_1 * a0)) + x4_1)) = ji9 := (i64_w _).trans hji9
      by_cases c10 : 0 ≤ (ji9)
      ·rw [if_pos c10] at H
       have c10b0 : decide (0 ≤ (ji9)) = true := decide_eq_true c10
       clear c10
       by_cases c11 : (ji9) < (x3_1.length : Int)
       ·rw [if_pos c11] at H
        have c11b0 : decide ((ji9) < (x3_1.length : Int)) = true := decide_eq_true c11
        clear c11
        obtain ⟨y128, hy128⟩ : ∃ y_ : List Int, y_ = (x3_1.set ((ji9) : Int).toNat 1) := ⟨_, rfl⟩
        replace H : (corncribref02_One.l0 k1 a0 y128 (wrap64 (x4_1 + 1))) = some (r1, r2, r3) := by first | (rw [hy128]; with_reducible exact H) | (have H2_ := (Option.bind_some _ _).symm.trans H; rw [hy128]; with_reducible exact H2_) | (have H2_ := (Option.bind_some _ _).symm.trans H; with_reducible exact H2_) | with_reducible exact H | (rw [hy128]; exact H) | exact H
        have Ny128 := Aside0.mk hy128
        clear hy128
        have H' := Aside0.mk H
        clear H
        have p12 : 0 ≤ ((ji9) : Int) := of_decide_eq_true (by first | (with_reducible assumption) | assumption)
        have q12 : ((ji9) : Int) < ((x3_1.length : Int) : Int) := of_decide_eq_true (by first | (with_reducible assumption) | assumption)
        obtain ⟨go12, co12, eo12, gb12, gl12, cl12, HG12⟩ := Kd.R_form HO_3.out (by omega)
        (first | cases eo12 | (injection eo12 with ea_ en_ ec_; (first | subst ea_ | (injection ea_ with ea_; subst ea_)); subst ec_; clear en_))
        have GB12 := Aside0.mk gb12
        have GG12 := Aside0.mk HG12
        clear gb12 gl12 HG12
        obtain ⟨hx12_0, hf12_0⟩ := Kd.R_celln 0 HO_3.out ((ji9) : Int) p12 q12
        replace p12 := eq_true p12
        replace q12 := eq_true q12
        have HP13 := Kd.R_putg HO_3.out ((ji9) : Int) 1
        go_wp2_with (first | ((with_reducible refine gate_store (t := 5) (p := 20) rfl ?_); refine store_event (t := 5) (p := 20) (v := ?vo_w14) (w1 := (wr.setCell ⟨go12, ((ji9) : Int).toNat, none⟩ (.int .u8 1))) ?hg ?ho ?hn ?hr ?_; (case ho => rfl); (case hg => rfl); (case hn => rfl); (case hr => first | (go_simp; done) | (go_simp; rfl)); intro w14 hw; have hg : wr.grownBy w14 (some go12) := (by rw [hw]; exact HP13.2); have hp_ : Kd.R (Kd.int .u8) 5 w14 w.heap.size (fun _ => True) (.slice (some ⟨go12, 0, none⟩) x3_1.length co12) y128 := (by rw [hw, Ny128.out]; exact HP13.1); clear HP13; have n0_ := Aside0.mk (hp_); have n1_ := Aside0.mk (blk_grown (g := gb124) (o := .cells #[.int .i64 0, .int .i64 0, .string (⟨#[]⟩ : ByteArray)] 24 (0, 0)) (by (with_reducible repeat (first | refine blk_drewN ?_ _ | refine blk_drew ?_ | refine blk_alloc ?_ _)); exact BK124.out) hg (Kd.R_ne HO_3.out BK124.out (by decide))); have n2_ := Aside0.mk ((by rw [hw]; exact below_set (HB.out) GB12.out : Below w.heap.size w w14)); clear HO_3; clear BK124; clear HB; have HO_3 := n0_; have BK124 := n1_; have HB := n2_; clear n0_ n1_ n2_; clear hg hw hp_))
        go_roundg k1
        case measure => have := HK1.out; omega
        case rel => exact ⟨(y128), (wrap64 (x4_1 + 1)), (by first | rfl | (simp; done) | (simp [*]; done)), H', ⟨by have := HK1.out; omega⟩, ⟨by (with_reducible repeat (first | apply Kd.R_alloc | apply Kd.R_drewN | apply Kd.R_drew)); exact HO_3.out⟩, ⟨by (with_reducible repeat (first | refine blk_drewN ?_ _ | refine blk_drew ?_ | refine blk_alloc ?_ _)); exact BK124.out⟩, ⟨by repeat (first | (with_reducible first | exact HB.out | apply below_alloc | apply pw_below_drewN | apply below_drew1 | refine below_set ?_ GE124.out) | exact HB.out)⟩⟩
       ·rw [if_neg c11] at H
        exact absurd H (by simp)
      ·rw [if_neg c10] at H
       exact absurd H (by simp)
     ·rw [if_neg c8] at H
      have c8b0 : decide (x4_1 < a0) = false := decide_eq_false c8
      clear c8
      simp only [Option.some.injEq, Prod.mk.injEq] at H
      obtain ⟨rfl, rfl, rfl⟩ := H
      have hcv15 := own_string (P := Try.prog) Try.underlying54 Try.underlying5 Try.underlying9 (Kd.own_of_R HO_3.out)
      obtain ⟨hcz16_0, hfz16_0, hcz16_1, hfz16_1, hcz16_2, hfz16_2⟩ := cfz3 BK124.out
      go_wp2
      refine bodyPost_ret (results_cell_row rfl _ _ gb124 24 #[.int .i64 a0, .int .i64 a0, .string (strOfNums x3_1)] (0, 0) _ rfl (by (with_reducible repeat (first | refine blk_drewN ?_ _ | refine blk_drew ?_ | refine blk_alloc ?_ _)); refine blk_put (cs := #[.int .i64 a0, .int .i64 a0, .string (⟨#[]⟩ : ByteArray)]) ?_ 2 _ rfl; (with_reducible repeat (first | refine blk_drewN ?_ _ | refine blk_drew ?_ | refine blk_alloc ?_ _)); refine blk_put (cs := #[.int .i64 a0, .int .i64 0, .string (⟨#[]⟩ : ByteArray)]) ?_ 1 _ rfl; (with_reducible repeat (first | refine blk_drewN ?_ _ | refine blk_drew ?_ | refine blk_alloc ?_ _)); refine blk_put (cs := #[.int .i64 0, .int .i64 0, .string (⟨#[]⟩ : ByteArray)]) ?_ 0 _ rfl; (with_reducible repeat (first | refine blk_drewN ?_ _ | refine blk_drew ?_ | refine blk_alloc ?_ _)); exact BK124.out) Try.underlying24 rfl (by kernel_rfl)) rfl ?_
      exact ⟨by first | rfl | (simp [errW_none, errW_some] <;> rfl) | (simp only [← hji2]; first | rfl | (simp [errW_none, errW_some] <;> rfl)) | (simp [*, errW_none, errW_some] <;> rfl), by repeat (first | (with_reducible first | exact HB.out | apply below_alloc | apply pw_below_drewN | apply below_drew1 | refine below_set ?_ GE124.out) | exact HB.out)⟩
  ·rw [if_neg c4] at H
   exact absurd H (by simp)
 ·rw [if_neg c3] at H
  exact absurd H (by simp)

end Go.Proofs.Ytoghhpkmficnmaa.Al

/- One function of the program comes to what its plain twin says. This text began as the kit's own print (print.py, made by cprint.sh) and was turned by split.py: it is no printed file. -/
namespace Go.Proofs.Ytoghhpkmficnmaa.Al
open Go.RowKit Go.Proofs.YtoghhpkmficnmaaW.PrintWords Go.Proofs.YtoghhpkmficnmaaW.PrintLast Go.Proofs.YtoghhpkmficnmaaW.PrintMore
attribute [local go_sem] max2_int min2_int max_two min_two max_three min_three max_four min_four   -- for this text's walks alone
set_option linter.unusedVariables false
set_option linter.unusedSimpArgs false

attribute [local go_sem high] eqA24
/-! ### corncribref02_Identity: function 17 -/
def corncribref02_Identity.f (k : Nat) (a0 : Int) : Option (Int × Int × ByteArray × Int) := if a0 < 1 then (some (0, 0, (⟨#[]⟩ : ByteArray), 1)) else (if a0 > 255 then (some (0, 0, (⟨#[]⟩ : ByteArray), 1)) else ((corncribref02_One.f k a0).bind fun bt185 => (some (bt185.1, bt185.2.1, bt185.2.2, 0))))
theorem corncribref02_Identity.mono : ∀ a0 k, LeO (corncribref02_Identity.f k a0) (corncribref02_Identity.f (k + 1) a0) := by
 intro a0 k
 unfold corncribref02_Identity.f
 repeat' first
   |(with_reducible exact corncribref02_One.mono _ _)
   |(with_reducible exact LeO.refl _)
   |(with_reducible exact LeO.none _)
   |(with_reducible refine LeO.ite ?_ ?_)
   |(with_reducible refine LeO.bind ?_ (fun _ => ?_))
   |exact corncribref02_One.mono _ _
   |exact LeO.none _
   |refine LeO.ite ?_ ?_
   |refine LeO.bind ?_ (fun _ => ?_)
set_option maxHeartbeats 8000000 in
set_option maxRecDepth 100000 in
theorem corncribref02_Identity.calls (k : Nat) (a0 : Int) (r1 : Int) (r2 : Int) (r3 : ByteArray) (r4 : Int) (w : World) (h : corncribref02_Identity.f k a0 = some (r1, r2, r3, r4)) :
  Calls Try.prog 17 #[.int .i64 a0] w fun e w' => e = .returned (.tuple #[.agg #[.int .i64 r1, .int .i64 r2, .string r3], .int .i64 r4]) ∧ Below w.heap.size w w' := by
 have hu24 := Try.underlying24
 have HB := Aside0.mk (Below.refl w.heap.size w)
 have H : (if a0 < 1 then (some (0, 0, (⟨#[]⟩ : ByteArray), 1)) else (if a0 > 255 then (some (0, 0, (⟨#[]⟩ : ByteArray), 1)) else ((corncribref02_One.f k a0).bind fun bt185 => (some (bt185.1, bt185.2.1, bt185.2.2, 0))))) = some (r1, r2, r3, r4) := h
 clear h
 by_cases c2 : a0 < 1
 ·rw [if_pos c2] at H
  have c2b0 : decide (a0 < 1) = true := decide_eq_true c2
  clear c2
  simp only [Option.some.injEq, Prod.mk.injEq] at H
  obtain ⟨rfl, rfl, rfl, rfl⟩ := H
  go_enter Try.func17, Try.ntmps17
  go_wp2_with (first | ((with_reducible refine gate_dst (N := 2) rfl ?_); refine box_event ?hg (N := 2) ?hd (cs := #[.int .i64 0, .int .i64 0, .string (⟨#[]⟩ : ByteArray)]) (t := 24) ?hr ?_; (case hd => rfl); (case hg => rfl); (case hr => first | (go_simp; done) | (go_simp; rfl)); intro gb184 hg w3 hbox hb; have n0_ := Aside0.mk (below_step (by repeat (first | (with_reducible first | exact HB.out | apply below_alloc | apply pw_below_drewN | apply below_drew1) | exact HB.out)) hb); have n1_ := Aside0.mk (hbox); have n2_ := Aside0.mk ((by rw [hg]; exact (below_size (by repeat (first | (with_reducible first | exact HB.out | apply below_alloc | apply pw_below_drewN | apply below_drew1) | exact HB.out))) : w.heap.size ≤ gb184)); have n3_ := Aside0.mk ((by rw [hg]; exact (below_size (by repeat (first | (with_reducible first | exact HB.out | apply below_alloc | apply pw_below_drewN | apply below_drew1) | exact HB.out))) : w.heap.size ≤ gb184)); clear HB; have HB := n0_; have BK184 := n1_; have GW184 := n2_; have GE184 := n3_; clear n0_ n1_ n2_ n3_; clear hb hbox hg; have hcz4_0 : w3.cell? ⟨gb184, 0, none⟩ = some (.int .i64 0) := (blk_cell BK184.out 0).trans rfl; have hcz4_1 : w3.cell? ⟨gb184, 1, none⟩ = some (.int .i64 0) := (blk_cell BK184.out 1).trans rfl; have hcz4_2 : w3.cell? ⟨gb184, 2, none⟩ = some (.string (⟨#[]⟩ : ByteArray)) := (blk_cell BK184.out 2).trans rfl; have hfz4_0 := blk_frozen BK184.out 0; have hfz4_1 := blk_frozen BK184.out 1; have hfz4_2 := blk_frozen BK184.out 2))
  refine bodyPost_ret (results_ct rfl _ _ gb184 24 #[.int .i64 0, .int .i64 0, .string (⟨#[]⟩ : ByteArray)] (0, 0) _ rfl (by (with_reducible repeat (first | refine blk_drewN ?_ _ | refine blk_drew ?_ | refine blk_alloc ?_ _)); refine blk_put (cs := #[.int .i64 0, .int .i64 0, .string (⟨#[]⟩ : ByteArray)]) ?_ 2 _ rfl; (with_reducible repeat (first | refine blk_drewN ?_ _ | refine blk_drew ?_ | refine blk_alloc ?_ _)); refine blk_put (cs := #[.int .i64 0, .int .i64 0, .string (⟨#[]⟩ : ByteArray)]) ?_ 1 _ rfl; (with_reducible repeat (first | refine blk_drewN ?_ _ | refine blk_drew ?_ | refine blk_alloc ?_ _)); refine blk_put (cs := #[.int .i64 0, .int .i64 0, .string (⟨#[]⟩ : ByteArray)]) ?_ 0 _ rfl; (with_reducible repeat (first | refine blk_drewN ?_ _ | refine blk_drew ?_ | refine blk_alloc ?_ _)); exact BK184.out) Try.underlying24 rfl (by kernel_rfl)) rfl ?_
  exact ⟨by first | rfl | (simp [errW_none, errW_some] <;> rfl) | (simp [*, errW_none, errW_some] <;> rfl), by repeat (first | (with_reducible first | exact HB.out | apply below_alloc | apply pw_below_drewN | apply below_drew1 | refine below_set ?_ GE184.out) | exact HB.out)⟩
 ·rw [if_neg c2] at H
  have c2b0 : decide (a0 < 1) = false := decide_eq_false c2
  clear c2
  by_cases c5 : a0 > 255
  ·rw [if_pos c5] at H
   have c5b0 : decide (255 < a0) = true := decide_eq_true c5
   clear c5
   simp only [Option.some.injEq, Prod.mk.injEq] at H
   obtain ⟨rfl, rfl, rfl, rfl⟩ := H
   go_enter Try.func17, Try.ntmps17
   go_wp2_with (first | ((with_reducible refine gate_dst (N := 2) rfl ?_); refine box_event ?hg (N := 2) ?hd (cs := #[.int .i64 0, .int .i64 0, .string (⟨#[]⟩ : ByteArray)]) (t := 24) ?hr ?_; (case hd => rfl); (case hg => rfl); (case hr => first | (go_simp; done) | (go_simp; rfl)); intro gb184 hg w6 hbox hb; have n0_ := Aside0.mk (below_step (by repeat (first | (with_reducible first | exact HB.out | apply below_alloc | apply pw_below_drewN | apply below_drew1) | exact HB.out)) hb); have n1_ := Aside0.mk (hbox); have n2_ := Aside0.mk ((by rw [hg]; exact (below_size (by repeat (first | (with_reducible first | exact HB.out | apply below_alloc | apply pw_below_drewN | apply below_drew1) | exact HB.out))) : w.heap.size ≤ gb184)); have n3_ := Aside0.mk ((by rw [hg]; exact (below_size (by repeat (first | (with_reducible first | exact HB.out | apply below_alloc | apply pw_below_drewN | apply below_drew1) | exact HB.out))) : w.heap.size ≤ gb184)); clear HB; have HB := n0_; have BK184 := n1_; have GW184 := n2_; have GE184 := n3_; clear n0_ n1_ n2_ n3_; clear hb hbox hg; have hcz7_0 : w6.cell? ⟨gb184, 0, none⟩ = some (.int .i64 0) := (blk_cell BK184.out 0).trans rfl; have hcz7_1 : w6.cell? ⟨gb184, 1, none⟩ = some (.int .i64 0) := (blk_cell BK184.out 1).trans rfl; have hcz7_2 : w6.cell? ⟨gb184, 2, none⟩ = some (.string (⟨#[]⟩ : ByteArray)) := (blk_cell BK184.out 2).trans rfl; have hfz7_0 := blk_frozen BK184.out 0; have hfz7_1 := blk_frozen BK184.out 1; have hfz7_2 := blk_frozen BK184.out 2))
   refine bodyPost_ret (results_ct rfl _ _ gb184 24 #[.int .i64 0, .int .i64 0, .string (⟨#[]⟩ : ByteArray)] (0, 0) _ rfl (by (with_reducible repeat (first | refine blk_drewN ?_ _ | refine blk_drew ?_ | refine blk_alloc ?_ _)); refine blk_put (cs := #[.int .i64 0, .int .i64 0, .string (⟨#[]⟩ : ByteArray)]) ?_ 2 _ rfl; (with_reducible repeat (first | refine blk_drewN ?_ _ | refine blk_drew ?_ | refine blk_alloc ?_ _)); refine blk_put (cs := #[.int .i64 0, .int .i64 0, .string (⟨#[]⟩ : ByteArray)]) ?_ 1 _ rfl; (with_reducible repeat (first | refine blk_drewN ?_ _ | refine blk_drew ?_ | refine blk_alloc ?_ _)); refine blk_put (cs := #[.int .i64 0, .int .i64 0, .string (⟨#[]⟩ : ByteArray)]) ?_ 0 _ rfl; (with_reducible repeat (first | refine blk_drewN ?_ _ | refine blk_drew ?_ | refine blk_alloc ?_ _)); exact BK184.out) Try.underlying24 rfl (by kernel_rfl)) rfl ?_
   exact ⟨by first | rfl | (simp [errW_none, errW_some] <;> rfl) | (simp [*, errW_none, errW_some] <;> rfl), by repeat (first | (with_reducible first | exact HB.out | apply below_alloc | apply pw_below_drewN | apply below_drew1 | refine below_set ?_ GE184.out) | exact HB.out)⟩
  ·rw [if_neg c5] at H
   have c5b0 : decide (255 < a0) = false := decide_eq_false c5
   clear c5
   replace H := Option.bind_eq_some_iff.mp H
   obtain ⟨⟨t185, t186, t187⟩, A80, H⟩ := H
   replace H : (some (t185, t186, t187, 0)) = some (r1, r2, r3, r4) := H
   have A8 := Aside0.mk A80
   clear A80
   simp only [Option.some.injEq, Prod.mk.injEq] at H
   obtain ⟨rfl, rfl, rfl, rfl⟩ := H
   go_enter Try.func17, Try.ntmps17
   go_wp2_with (first | ((with_reducible refine gate_dst (N := 2) rfl ?_); refine box_event ?hg (N := 2) ?hd (cs := #[.int .i64 0, .int .i64 0, .string (⟨#[]⟩ : ByteArray)]) (t := 24) ?hr ?_; (case hd => rfl); (case hg => rfl); (case hr => first | (go_simp; done) | (go_simp; rfl)); intro gb184 hg w9 hbox hb; have n0_ := Aside0.mk (below_step (by repeat (first | (with_reducible first | exact HB.out | apply below_alloc | apply pw_below_drewN | apply below_drew1) | exact HB.out)) hb); have n1_ := Aside0.mk (hbox); have n2_ := Aside0.mk ((by rw [hg]; exact (below_size (by repeat (first | (with_reducible first | exact HB.out | apply below_alloc | apply pw_below_drewN | apply below_drew1) | exact HB.out))) : w.heap.size ≤ gb184)); have n3_ := Aside0.mk ((by rw [hg]; exact (below_size (by repeat (first | (with_reducible first | exact HB.out | apply below_alloc | apply pw_below_drewN | apply below_drew1) | exact HB.out))) : w.heap.size ≤ gb184)); clear HB; have HB := n0_; have BK184 := n1_; have GW184 := n2_; have GE184 := n3_; clear n0_ n1_ n2_ n3_; clear hb hbox hg) | ((with_reducible refine gate_callee (f := 35) rfl ?_); refine goesL_ (some 12) rfl rfl Try.func35 (by kernel_rfl) rfl #[.int .i64 a0] rfl (by (try simp only [List.map_toArray, List.map_cons, List.map_nil]); first | done | rfl | (simp only [List.length_drop, List.length_take]; rfl)) ?_; (with_reducible refine (corncribref02_One.calls k a0 t185 t186 t187 _ A8.out).mono ?_); rintro e w10 ⟨rfl, hb⟩; refine ⟨_, rfl, ?_⟩; have n0_ := Aside0.mk (blk_below (g := gb184) (o := .cells #[.int .i64 0, .int .i64 0, .string (⟨#[]⟩ : ByteArray)] 24 (0, 0)) (by (with_reducible repeat (first | refine blk_drewN ?_ _ | refine blk_drew ?_ | refine blk_alloc ?_ _)); exact BK184.out) hb); have n1_ := Aside0.mk (below_step (by repeat (first | (with_reducible first | exact HB.out | apply below_alloc | apply pw_below_drewN | apply below_drew1 | refine below_set ?_ GE184.out) | exact HB.out)) hb); clear BK184; clear HB; have BK184 := n0_; have HB := n1_; clear n0_ n1_; (try clear hb); (try clear hb2); (try clear hk); (try clear hi); have hcz11_0 : w10.cell? ⟨gb184, 0, none⟩ = some (.int .i64 0) := (blk_cell BK184.out 0).trans rfl; have hcz11_1 : w10.cell? ⟨gb184, 1, none⟩ = some (.int .i64 0) := (blk_cell BK184.out 1).trans rfl; have hcz11_2 : w10.cell? ⟨gb184, 2, none⟩ = some (.string (⟨#[]⟩ : ByteArray)) := (blk_cell BK184.out 2).trans rfl; have hfz11_0 := blk_frozen BK184.out 0; have hfz11_1 := blk_frozen BK184.out 1; have hfz11_2 := blk_frozen BK184.out 2))
   refine bodyPost_ret (results_ct rfl _ _ gb184 24 #[.int .i64 t185, .int .i64 t186, .string t187] (0, 0) _ rfl (by (with_reducible repeat (first | refine blk_drewN ?_ _ | refine blk_drew ?_ | refine blk_alloc ?_ _)); refine blk_put (cs := #[.int .i64 t185, .int .i64 t186, .string (⟨#[]⟩ : ByteArray)]) ?_ 2 _ rfl; (with_reducible repeat (first | refine blk_drewN ?_ _ | refine blk_drew ?_ | refine blk_alloc ?_ _)); refine blk_put (cs := #[.int .i64 t185, .int .i64 0, .string (⟨#[]⟩ : ByteArray)]) ?_ 1 _ rfl; (with_reducible repeat (first | refine blk_drewN ?_ _ | refine blk_drew ?_ | refine blk_alloc ?_ _)); refine blk_put (cs := #[.int .i64 0, .int .i64 0, .string (⟨#[]⟩ : ByteArray)]) ?_ 0 _ rfl; (with_reducible repeat (first | refine blk_drewN ?_ _ | refine blk_drew ?_ | refine blk_alloc ?_ _)); exact BK184.out) Try.underlying24 rfl (by kernel_rfl)) rfl ?_
   exact ⟨by first | rfl | (simp [errW_none, errW_some] <;> rfl) | (simp [*, errW_none, errW_some] <;> rfl), by repeat (first | (with_reducible first | exact HB.out | apply below_alloc | apply pw_below_drewN | apply below_drew1 | refine below_set ?_ GE184.out) | exact HB.out)⟩

end Go.Proofs.Ytoghhpkmficnmaa.Al

/- One function of the program comes to what its plain twin says. This text began as the kit's own print (print.py, made by cprint.sh) and was turned by split.py: it is no printed file. -/
namespace Go.Proofs.Ytoghhpkmficnmaa.Al
open Go.RowKit Go.Proofs.YtoghhpkmficnmaaW.PrintWords Go.Proofs.YtoghhpkmficnmaaW.PrintLast Go.Proofs.YtoghhpkmficnmaaW.PrintMore
attribute [local go_sem] max2_int min2_int max_two min_two max_three min_three max_four min_four   -- for this text's walks alone
set_option linter.unusedVariables false
set_option linter.unusedSimpArgs false

attribute [local go_sem high] eqA24
/-! ### corncribref02_Times: function 37 -/
mutual
def corncribref02_Times.l0 : Nat → List Int → Int → Int → Int → ByteArray → Int → Int → ByteArray → Option (Int × Int × ByteArray)
 |0, _, _, _, _, _, _, _, _ => none
 |k + 1, x5, x6, x190000, x190001, x190002, x191000, x191001, x191002 => if x6 < x190000 then (corncribref02_Times.l1 k x5 x6 0 x190000 x190001 x190002 x191000 x191001 x191002) else (some (x190000, x191001, strOfNums x5))
def corncribref02_Times.l1 : Nat → List Int → Int → Int → Int → Int → ByteArray → Int → Int → ByteArray → Option (Int × Int × ByteArray)
 |0, _, _, _, _, _, _, _, _, _ => none
 |k + 1, x5, x6, x7, x190000, x190001, x190002, x191000, x191001, x191002 => if x7 < x191001 then (corncribref02_Times.l2 k x5 x6 x7 0 0 x190000 x190001 x190002 x191000 x191001 x191002) else (corncribref02_Times.l0 k x5 (wrap64 (x6 + 1)) x190000 x190001 x190002 x191000 x191001 x191002)
def corncribref02_Times.l2 : Nat → List Int → Int → Int → Int → Int → Int → Int → ByteArray → Int → Int → ByteArray → Option (Int × Int × ByteArray)
 |0, _, _, _, _, _, _, _, _, _, _, _ => none
 |k + 1, x5, x6, x7, x8, x9, x190000, x190001, x190002, x191000, x191001, x191002 => if x9 < x190001 then (if 0 ≤ (wrap64 ((wrap64 (x6 * x190001)) + x9)) then (if (wrap64 ((wrap64 (x6 * x190001)) + x9)) < (x190002.size : Int) then (if 0 ≤ (wrap64 ((wrap64 (x9 * x191001)) + x7)) then (if (wrap64 ((wrap64 (x9 * x191001)) + x7)) < (x191002.size : Int) then ((corncribref01_Mul.f k (bt x190002 (wrap64 ((wrap64 (x6 * x190001)) + x9))) (bt x191002 (wrap64 ((wrap64 (x9 * x191001)) + x7)))).bind fun t192 => (corncribref02_Times.l2 k x5 x6 x7 (Go.bits .xor .u8 x8 t192) (wrap64 (x9 + 1)) x190000 x190001 x190002 x191000 x191001 x191002)) else (none)) else (none)) else (none)) else (none)) else (if x5.length < 140737488355328 then (corncribref02_Times.l1 k (x5 ++ [x8]) x6 (wrap64 (x7 + 1)) x190000 x190001 x190002 x191000 x191001 x191002) else (none))
end
def corncribref02_Times.f (k : Nat) (a0_0 : Int) (a0_1 : Int) (a0_2 : ByteArray) (a1_0 : Int) (a1_1 : Int) (a1_2 : ByteArray) : Option (Int × Int × ByteArray) := corncribref02_Times.l0 k ([] : List Int) 0 a0_0 a0_1 a0_2 a1_0 a1_1 a1_2
theorem corncribref02_Times.mono_l : ∀ k, (∀ y0 y1 y2 y3 y4 y5 y6 y7, LeO (corncribref02_Times.l0 k y0 y1 y2 y3 y4 y5 y6 y7) (corncribref02_Times.l0 (k + 1) y0 y1 y2 y3 y4 y5 y6 y7)) ∧ (∀ y0 y1 y2 y3 y4 y5 y6 y7 y8, LeO (corncribref02_Times.l1 k y0 y1 y2 y3 y4 y5 y6 y7 y8) (corncribref02_Times.l1 (k + 1) y0 y1 y2 y3 y4 y5 y6 y7 y8)) ∧ (∀ y0 y1 y2 y3 y4 y5 y6 y7 y8 y9 y10, LeO (corncribref02_Times.l2 k y0 y1 y2 y3 y4 y5 y6 y7 y8 y9 y10) (corncribref02_Times.l2 (k + 1) y0 y1 y2 y3 y4 y5 y6 y7 y8 y9 y10))
 |0 => ⟨fun _ _ _ _ _ _ _ _ r h => by simp [corncribref02_Times.l0] at h, fun _ _ _ _ _ _ _ _ _ r h => by simp [corncribref02_Times.l1] at h, fun _ _ _ _ _ _ _ _ _ _ _ r h => by simp [corncribref02_Times.l2] at h⟩
 |k + 1 => by
  obtain ⟨ih0, ih1, ih2⟩ := corncribref02_Times.mono_l k
  refine ⟨?_, ?_, ?_⟩
  ·intro y0 y1 y2 y3 y4 y5 y6 y7
   unfold corncribref02_Times.l0
   repeat' first
   |(with_reducible exact ih0 _ _ _ _ _ _ _ _)
   |(with_reducible exact ih1 _ _ _ _ _ _ _ _ _)
   |(with_reducible exact ih2 _ _ _ _ _ _ _ _ _ _ _)
   |(with_reducible exact corncribref01_Mul.mono _ _ _)
   |(with_reducible exact LeO.refl _)
   |(with_reducible exact LeO.none _)
   |(with_reducible refine LeO.ite ?_ ?_)
   |(with_reducible refine LeO.bind ?_ (fun _ => ?_))
   |exact ih0 _ _ _ _ _ _ _ _
   |exact ih1 _ _ _ _ _ _ _ _ _
   |exact ih2 _ _ _ _ _ _ _ _ _ _ _
   |exact corncribref01_Mul.mono _ _ _
   |exact LeO.none _
   |refine LeO.ite ?_ ?_
   |refine LeO.bind ?_ (fun _ => ?_)
  ·intro y0 y1 y2 y3 y4 y5 y6 y7 y8
   unfold corncribref02_Times.l1
   repeat' first
   |(with_reducible exact ih0 _ _ _ _ _ _ _ _)
   |(with_reducible exact ih1 _ _ _ _ _ _ _ _ _)
   |(with_reducible exact ih2 _ _ _ _ _ _ _ _ _ _ _)
   |(with_reducible exact corncribref01_Mul.mono _ _ _)
   |(with_reducible exact LeO.refl _)
   |(with_reducible exact LeO.none _)
   |(with_reducible refine LeO.ite ?_ ?_)
   |(with_reducible refine LeO.bind ?_ (fun _ => ?_))
   |exact ih0 _ _ _ _ _ _ _ _
   |exact ih1 _ _ _ _ _ _ _ _ _
   |exact ih2 _ _ _ _ _ _ _ _ _ _ _
   |exact corncribref01_Mul.mono _ _ _
   |exact LeO.none _
   |refine LeO.ite ?_ ?_
   |refine LeO.bind ?_ (fun _ => ?_)
  ·intro y0 y1 y2 y3 y4 y5 y6 y7 y8 y9 y10
   unfold corncribref02_Times.l2
   repeat' first
   |(with_reducible exact ih0 _ _ _ _ _ _ _ _)
   |(with_reducible exact ih1 _ _ _ _ _ _ _ _ _)
   |(with_reducible exact ih2 _ _ _ _ _ _ _ _ _ _ _)
   |(with_reducible exact corncribref01_Mul.mono _ _ _)
   |(with_reducible exact LeO.refl _)
   |(with_reducible exact LeO.none _)
   |(with_reducible refine LeO.ite ?_ ?_)
   |(with_reducible refine LeO.bind ?_ (fun _ => ?_))
   |exact ih0 _ _ _ _ _ _ _ _
   |exact ih1 _ _ _ _ _ _ _ _ _
   |exact ih2 _ _ _ _ _ _ _ _ _ _ _
   |exact corncribref01_Mul.mono _ _ _
   |exact LeO.none _
   |refine LeO.ite ?_ ?_
   |refine LeO.bind ?_ (fun _ => ?_)
theorem corncribref02_Times.mono : ∀ a0 a1 a2 a3 a4 a5 k, LeO (corncribref02_Times.f k a0 a1 a2 a3 a4 a5) (corncribref02_Times.f (k + 1) a0 a1 a2 a3 a4 a5) := by
 intro a0 a1 a2 a3 a4 a5 k
 obtain ⟨ih0, ih1, ih2⟩ := corncribref02_Times.mono_l k
 unfold corncribref02_Times.f
 repeat' first
   |(with_reducible exact ih0 _ _ _ _ _ _ _ _)
   |(with_reducible exact ih1 _ _ _ _ _ _ _ _ _)
   |(with_reducible exact ih2 _ _ _ _ _ _ _ _ _ _ _)
   |(with_reducible exact corncribref01_Mul.mono _ _ _)
   |(with_reducible exact LeO.refl _)
   |(with_reducible exact LeO.none _)
   |(with_reducible refine LeO.ite ?_ ?_)
   |(with_reducible refine LeO.bind ?_ (fun _ => ?_))
   |exact ih0 _ _ _ _ _ _ _ _
   |exact ih1 _ _ _ _ _ _ _ _ _
   |exact ih2 _ _ _ _ _ _ _ _ _ _ _
   |exact corncribref01_Mul.mono _ _ _
   |exact LeO.none _
   |refine LeO.ite ?_ ?_
   |refine LeO.bind ?_ (fun _ => ?_)
set_option maxHeartbeats 8000000 in
set_option maxRecDepth 100000 in
theorem corncribref02_Times.calls (k : Nat) (a0_0 : Int) (a0_1 : Int) (a0_2 : ByteArray) (a1_0 : Int) (a1_1 : Int) (a1_2 : ByteArray) (r1 : Int) (r2 : Int) (r3 : ByteArray) (w : World) (h : corncribref02_Times.f k a0_0 a0_1 a0_2 a1_0 a1_1 a1_2 = some (r1, r2, r3)) :
  Calls Try.prog 37 #[.agg #[.int .i64 a0_0, .int .i64 a0_1, .string a0_2], .agg #[.int .i64 a1_0, .int .i64 a1_1, .string a1_2]] w fun e w' => e = .returned (.agg #[.int .i64 r1, .int .i64 r2, .string r3]) ∧ Below w.heap.size w w' := by
 have hu24 := Try.underlying24
 have HB := Aside0.mk (Below.refl w.heap.size w)
 have H : (corncribref02_Times.l0 k ([] : List Int) 0 a0_0 a0_1 a0_2 a1_0 a1_1 a1_2) = some (r1, r2, r3) := h
 clear h
 have H' := Aside0.mk H
 clear H
 go_enter Try.func37, Try.ntmps37
 go_wp2_with (first | ((with_reducible refine gate_dst (N := 2) rfl ?_); refine box_event ?hg (N := 2) ?hd (cs := #[.int .i64 a0_0, .int .i64 a0_1, .string a0_2]) (t := 24) ?hr ?_; (case hd => rfl); (case hg => rfl); (case hr => first | (go_simp; done) | (go_simp; rfl)); intro gb189 hg w3 hbox hb; have n0_ := Aside0.mk (below_step (by repeat (first | (with_reducible first | exact HB.out | apply below_alloc | apply pw_below_drewN | apply below_drew1) | exact HB.out)) hb); have n1_ := Aside0.mk (hbox); have n2_ := Aside0.mk ((by rw [hg]; exact (below_size (by repeat (first | (with_reducible first | exact HB.out | apply below_alloc | apply pw_below_drewN | apply below_drew1) | exact HB.out))) : w.heap.size ≤ gb189)); have n3_ := Aside0.mk ((by rw [hg]; exact (below_size (by repeat (first | (with_reducible first | exact HB.out | apply below_alloc | apply pw_below_drewN | apply below_drew1) | exact HB.out))) : w.heap.size ≤ gb189)); clear HB; have HB := n0_; have BK189 := n1_; have GW189 := n2_; have GE189 := n3_; clear n0_ n1_ n2_ n3_; clear hb hbox hg) | ((with_reducible refine gate_dst (N := 3) rfl ?_); refine box_event ?hg (N := 3) ?hd (cs := #[.int .i64 a1_0, .int .i64 a1_1, .string a1_2]) (t := 24) ?hr ?_; (case hd => rfl); (case hg => rfl); (case hr => first | (go_simp; done) | (go_simp; rfl)); intro gb190 hg w4 hbox hb; have n0_ := Aside0.mk (blk_below (g := gb189) (o := .cells #[.int .i64 a0_0, .int .i64 a0_1, .string a0_2] 24 (0, 0)) (by (with_reducible repeat (first | refine blk_drewN ?_ _ | refine blk_drew ?_ | refine blk_alloc ?_ _)); exact BK189.out) hb); have n1_ := Aside0.mk (below_step (by repeat (first | (with_reducible first | exact HB.out | apply below_alloc | apply pw_below_drewN | apply below_drew1 | refine below_set ?_ GE189.out) | exact HB.out)) hb); have n2_ := Aside0.mk (hbox); have n3_ := Aside0.mk ((by rw [hg]; exact (below_size (by repeat (first | (with_reducible first | exact HB.out | apply below_alloc | apply pw_below_drewN | apply below_drew1 | refine below_set ?_ GE189.out) | exact HB.out))) : w.heap.size ≤ gb190)); have n4_ := Aside0.mk ((by rw [hg]; exact (below_size (by repeat (first | (with_reducible first | exact HB.out | apply below_alloc | apply pw_below_drewN | apply below_drew1 | refine below_set ?_ GE189.out) | exact HB.out))) : w.heap.size ≤ gb190)); have n5_ := Aside0.mk ((by rw [hg]; exact Nat.ne_of_lt (blk_lt (g := gb189) (o := .cells #[.int .i64 a0_0, .int .i64 a0_1, .string a0_2] 24 (0, 0)) (by (with_reducible repeat (first | refine blk_drewN ?_ _ | refine blk_drew ?_ | refine blk_alloc ?_ _)); exact BK189.out)) : gb189 ≠ gb190)); have n6_ := Aside0.mk ((by rw [hg]; exact Nat.ne_of_gt (blk_lt (g := gb189) (o := .cells #[.int .i64 a0_0, .int .i64 a0_1, .string a0_2] 24 (0, 0)) (by (with_reducible repeat (first | refine blk_drewN ?_ _ | refine blk_drew ?_ | refine blk_alloc ?_ _)); exact BK189.out)) : gb190 ≠ gb189)); clear BK189; clear HB; have BK189 := n0_; have HB := n1_; have BK190 := n2_; have GW190 := n3_; have GE190 := n4_; have NB189_190 := n5_; have NB190_189 := n6_; clear n0_ n1_ n2_ n3_ n4_ n5_ n6_; clear hb hbox hg) | ((with_reducible refine gate_dst (N := 4) rfl ?_); refine box_event ?hg (N := 4) ?hd (cs := #[.int .i64 0, .int .i64 0, .string (⟨#[]⟩ : ByteArray)]) (t := 24) ?hr ?_; (case hd => rfl); (case hg => rfl); (case hr => first | (go_simp; done) | (go_simp; rfl)); intro gb191 hg w5 hbox hb; have n0_ := Aside0.mk (blk_below (g := gb189) (o := .cells #[.int .i64 a0_0, .int .i64 a0_1, .string a0_2] 24 (0, 0)) (by (with_reducible repeat (first | refine blk_drewN ?_ _ | refine blk_drew ?_ | refine blk_alloc ?_ _)); exact BK189.out) hb); have n1_ := Aside0.mk (blk_below (g := gb190) (o := .cells #[.int .i64 a1_0, .int .i64 a1_1, .string a1_2] 24 (0, 0)) (by (with_reducible repeat (first | refine blk_drewN ?_ _ | refine blk_drew ?_ | refine blk_alloc ?_ _)); exact BK190.out) hb); have n2_ := Aside0.mk (below_step (by repeat (first | (with_reducible first | exact HB.out | apply below_alloc | apply pw_below_drewN | apply below_drew1 | refine below_set ?_ GE189.out | refine below_set ?_ GE190.out) | exact HB.out)) hb); have n3_ := Aside0.mk (hbox); have n4_ := Aside0.mk ((by rw [hg]; exact (below_size (by repeat (first | (with_reducible first | exact HB.out | apply below_alloc | apply pw_below_drewN | apply below_drew1 | refine below_set ?_ GE189.out | refine below_set ?_ GE190.out) | exact HB.out))) : w.heap.size ≤ gb191)); have n5_ := Aside0.mk ((by rw [hg]; exact (below_size (by repeat (first | (with_reducible first | exact HB.out | apply below_alloc | apply pw_below_drewN | apply below_drew1 | refine below_set ?_ GE189.out | refine below_set ?_ GE190.out) | exact HB.out))) : w.heap.size ≤ gb191)); have n6_ := Aside0.mk ((by rw [hg]; exact Nat.ne_of_lt (blk_lt (g := gb189) (o := .cells #[.int .i64 a0_0, .int .i64 a0_1, .string a0_2] 24 (0, 0)) (by (with_reducible repeat (first | refine blk_drewN ?_ _ | refine blk_drew ?_ | refine blk_alloc ?_ _)); exact BK189.out)) : gb189 ≠ gb191)); have n7_ := Aside0.mk ((by rw [hg]; exact Nat.ne_of_gt (blk_lt (g := gb189) (o := .cells #[.int .i64 a0_0, .int .i64 a0_1, .string a0_2] 24 (0, 0)) (by (with_reducible repeat (first | refine blk_drewN ?_ _ | refine blk_drew ?_ | refine blk_alloc ?_ _)); exact BK189.out)) : gb191 ≠ gb189)); have n8_ := Aside0.mk ((by rw [hg]; exact Nat.ne_of_lt (blk_lt (g := gb190) (o := .cells #[.int .i64 a1_0, .int .i64 a1_1, .string a1_2] 24 (0, 0)) (by (with_reducible repeat (first | refine blk_drewN ?_ _ | refine blk_drew ?_ | refine blk_alloc ?_ _)); exact BK190.out)) : gb190 ≠ gb191)); have n9_ := Aside0.mk ((by rw [hg]; exact Nat.ne_of_gt (blk_lt (g := gb190) (o := .cells #[.int .i64 a1_0, .int .i64 a1_1, .string a1_2] 24 (0, 0)) (by (with_reducible repeat (first | refine blk_drewN ?_ _ | refine blk_drew ?_ | refine blk_alloc ?_ _)); exact BK190.out)) : gb191 ≠ gb190)); clear BK189; clear BK190; clear HB; have BK189 := n0_; have BK190 := n1_; have HB := n2_; have BK191 := n3_; have GW191 := n4_; have GE191 := n5_; have NB189_191 := n6_; have NB191_189 := n7_; have NB190_191 := n8_; have NB191_190 := n9_; clear n0_ n1_ n2_ n3_ n4_ n5_ n6_ n7_ n8_ n9_; clear hb hbox hg))
 repeat (go_quiet (first | ((with_reducible refine gate_dst (N := 2) rfl ?_); refine box_event ?hg (N := 2) ?hd (cs := #[.int .i64 a0_0, .int .i64 a0_1, .string a0_2]) (t := 24) ?hr ?_; (case hd => rfl); (case hg => rfl); (case hr => first | (go_simp; done) | (go_simp; rfl)); intro gb189 hg w3 hbox hb; have n0_ := Aside0.mk (below_step (by repeat (first | (with_reducible first | exact HB.out | apply below_alloc | apply pw_below_drewN | apply below_drew1) | exact HB.out)) hb); have n1_ := Aside0.mk (hbox); have n2_ := Aside0.mk ((by rw [hg]; exact (below_size (by repeat (first | (with_reducible first | exact HB.out | apply below_alloc | apply pw_below_drewN | apply below_drew1) | exact HB.out))) : w.heap.size ≤ gb189)); have n3_ := Aside0.mk ((by rw [hg]; exact (below_size (by repeat (first | (with_reducible first | exact HB.out | apply below_alloc | apply pw_below_drewN | apply below_drew1) | exact HB.out))) : w.heap.size ≤ gb189)); clear HB; have HB := n0_; have BK189 := n1_; have GW189 := n2_; have GE189 := n3_; clear n0_ n1_ n2_ n3_; clear hb hbox hg) | ((with_reducible refine gate_dst (N := 3) rfl ?_); refine box_event ?hg (N := 3) ?hd (cs := #[.int .i64 a1_0, .int .i64 a1_1, .string a1_2]) (t := 24) ?hr ?_; (case hd => rfl); (case hg => rfl); (case hr => first | (go_simp; done) | (go_simp; rfl)); intro gb190 hg w4 hbox hb; have n0_ := Aside0.mk (blk_below (g := gb189) (o := .cells #[.int .i64 a0_0, .int .i64 a0_1, .string a0_2] 24 (0, 0)) (by (with_reducible repeat (first | refine blk_drewN ?_ _ | refine blk_drew ?_ | refine blk_alloc ?_ _)); exact BK189.out) hb); have n1_ := Aside0.mk (below_step (by repeat (first | (with_reducible first | exact HB.out | apply below_alloc | apply pw_below_drewN | apply below_drew1 | refine below_set ?_ GE189.out) | exact HB.out)) hb); have n2_ := Aside0.mk (hbox); have n3_ := Aside0.mk ((by rw [hg]; exact (below_size (by repeat (first | (with_reducible first | exact HB.out | apply below_alloc | apply pw_below_drewN | apply below_drew1 | refine below_set ?_ GE189.out) | exact HB.out))) : w.heap.size ≤ gb190)); have n4_ := Aside0.mk ((by rw [hg]; exact (below_size (by repeat (first | (with_reducible first | exact HB.out | apply below_alloc | apply pw_below_drewN | apply below_drew1 | refine below_set ?_ GE189.out) | exact HB.out))) : w.heap.size ≤ gb190)); have n5_ := Aside0.mk ((by rw [hg]; exact Nat.ne_of_lt (blk_lt (g := gb189) (o := .cells #[.int .i64 a0_0, .int .i64 a0_1, .string a0_2] 24 (0, 0)) (by (with_reducible repeat (first | refine blk_drewN ?_ _ | refine blk_drew ?_ | refine blk_alloc ?_ _)); exact BK189.out)) : gb189 ≠ gb190)); have n6_ := Aside0.mk ((by rw [hg]; exact Nat.ne_of_gt (blk_lt (g := gb189) (o := .cells #[.int .i64 a0_0, .int .i64 a0_1, .string a0_2] 24 (0, 0)) (by (with_reducible repeat (first | refine blk_drewN ?_ _ | refine blk_drew ?_ | refine blk_alloc ?_ _)); exact BK189.out)) : gb190 ≠ gb189)); clear BK189; clear HB; have BK189 := n0_; have HB := n1_; have BK190 := n2_; have GW190 := n3_; have GE190 := n4_; have NB189_190 := n5_; have NB190_189 := n6_; clear n0_ n1_ n2_ n3_ n4_ n5_ n6_; clear hb hbox hg) | ((with_reducible refine gate_dst (N := 4) rfl ?_); refine box_event ?hg (N := 4) ?hd (cs := #[.int .i64 0, .int .i64 0, .string (⟨#[]⟩ : ByteArray)]) (t := 24) ?hr ?_; (case hd => rfl); (case hg => rfl); (case hr => first | (go_simp; done) | (go_simp; rfl)); intro gb191 hg w5 hbox hb; have n0_ := Aside0.mk (blk_below (g := gb189) (o := .cells #[.int .i64 a0_0, .int .i64 a0_1, .string a0_2] 24 (0, 0)) (by (with_reducible repeat (first | refine blk_drewN ?_ _ | refine blk_drew ?_ | refine blk_alloc ?_ _)); exact BK189.out) hb); have n1_ := Aside0.mk (blk_below (g := gb190) (o := .cells #[.int .i64 a1_0, .int .i64 a1_1, .string a1_2] 24 (0, 0)) (by (with_reducible repeat (first | refine blk_drewN ?_ _ | refine blk_drew ?_ | refine blk_alloc ?_ _)); exact BK190.out) hb); have n2_ := Aside0.mk (below_step (by repeat (first | (with_reducible first | exact HB.out | apply below_alloc | apply pw_below_drewN | apply below_drew1 | refine below_set ?_ GE189.out | refine below_set ?_ GE190.out) | exact HB.out)) hb); have n3_ := Aside0.mk (hbox); have n4_ := Aside0.mk ((by rw [hg]; exact (below_size (by repeat (first | (with_reducible first | exact HB.out | apply below_alloc | apply pw_below_drewN | apply below_drew1 | refine below_set ?_ GE189.out | refine below_set ?_ GE190.out) | exact HB.out))) : w.heap.size ≤ gb191)); have n5_ := Aside0.mk ((by rw [hg]; exact (below_size (by repeat (first | (with_reducible first | exact HB.out | apply below_alloc | apply pw_below_drewN | apply below_drew1 | refine below_set ?_ GE189.out | refine below_set ?_ GE190.out) | exact HB.out))) : w.heap.size ≤ gb191)); have n6_ := Aside0.mk ((by rw [hg]; exact Nat.ne_of_lt (blk_lt (g := gb189) (o := .cells #[.int .i64 a0_0, .int .i64 a0_1, .string a0_2] 24 (0, 0)) (by (with_reducible repeat (first | refine blk_drewN ?_ _ | refine blk_drew ?_ | refine blk_alloc ?_ _)); exact BK189.out)) : gb189 ≠ gb191)); have n7_ := Aside0.mk ((by rw [hg]; exact Nat.ne_of_gt (blk_lt (g := gb189) (o := .cells #[.int .i64 a0_0, .int .i64 a0_1, .string a0_2] 24 (0, 0)) (by (with_reducible repeat (first | refine blk_drewN ?_ _ | refine blk_drew ?_ | refine blk_alloc ?_ _)); exact BK189.out)) : gb191 ≠ gb189)); have n8_ := Aside0.mk ((by rw [hg]; exact Nat.ne_of_lt (blk_lt (g := gb190) (o := .cells #[.int .i64 a1_0, .int .i64 a1_1, .string a1_2] 24 (0, 0)) (by (with_reducible repeat (first | refine blk_drewN ?_ _ | refine blk_drew ?_ | refine blk_alloc ?_ _)); exact BK190.out)) : gb190 ≠ gb191)); have n9_ := Aside0.mk ((by rw [hg]; exact Nat.ne_of_gt (blk_lt (g := gb190) (o := .cells #[.int .i64 a1_0, .int .i64 a1_1, .string a1_2] 24 (0, 0)) (by (with_reducible repeat (first | refine blk_drewN ?_ _ | refine blk_drew ?_ | refine blk_alloc ?_ _)); exact BK190.out)) : gb191 ≠ gb190)); clear BK189; clear BK190; clear HB; have BK189 := n0_; have BK190 := n1_; have HB := n2_; have BK191 := n3_; have GW191 := n4_; have GE191 := n5_; have NB189_191 := n6_; have NB191_189 := n7_; have NB190_191 := n8_; have NB191_190 := n9_; clear n0_ n1_ n2_ n3_ n4_ n5_ n6_ n7_ n8_ n9_; clear hb hbox hg)); try go_wp2_with (first | ((with_reducible refine gate_dst (N := 2) rfl ?_); refine box_event ?hg (N := 2) ?hd (cs := #[.int .i64 a0_0, .int .i64 a0_1, .string a0_2]) (t := 24) ?hr ?_; (case hd => rfl); (case hg => rfl); (case hr => first | (go_simp; done) | (go_simp; rfl)); intro gb189 hg w3 hbox hb; have n0_ := Aside0.mk (below_step (by repeat (first | (with_reducible first | exact HB.out | apply below_alloc | apply pw_below_drewN | apply below_drew1) | exact HB.out)) hb); have n1_ := Aside0.mk (hbox); have n2_ := Aside0.mk ((by rw [hg]; exact (below_size (by repeat (first | (with_reducible first | exact HB.out | apply below_alloc | apply pw_below_drewN | apply below_drew1) | exact HB.out))) : w.heap.size ≤ gb189)); have n3_ := Aside0.mk ((by rw [hg]; exact (below_size (by repeat (first | (with_reducible first | exact HB.out | apply below_alloc | apply pw_below_drewN | apply below_drew1) | exact HB.out))) : w.heap.size ≤ gb189)); clear HB; have HB := n0_; have BK189 := n1_; have GW189 := n2_; have GE189 := n3_; clear n0_ n1_ n2_ n3_; clear hb hbox hg) | ((with_reducible refine gate_dst (N := 3) rfl ?_); refine box_event ?hg (N := 3) ?hd (cs := #[.int .i64 a1_0, .int .i64 a1_1, .string a1_2]) (t := 24) ?hr ?_; (case hd => rfl); (case hg => rfl); (case hr => first | (go_simp; done) | (go_simp; rfl)); intro gb190 hg w4 hbox hb; have n0_ := Aside0.mk (blk_below (g := gb189) (o := .cells #[.int .i64 a0_0, .int .i64 a0_1, .string a0_2] 24 (0, 0)) (by (with_reducible repeat (first | refine blk_drewN ?_ _ | refine blk_drew ?_ | refine blk_alloc ?_ _)); exact BK189.out) hb); have n1_ := Aside0.mk (below_step (by repeat (first | (with_reducible first | exact HB.out | apply below_alloc | apply pw_below_drewN | apply below_drew1 | refine below_set ?_ GE189.out) | exact HB.out)) hb); have n2_ := Aside0.mk (hbox); have n3_ := Aside0.mk ((by rw [hg]; exact (below_size (by repeat (first | (with_reducible first | exact HB.out | apply below_alloc | apply pw_below_drewN | apply below_drew1 | refine below_set ?_ GE189.out) | exact HB.out))) : w.heap.size ≤ gb190)); have n4_ := Aside0.mk ((by rw [hg]; exact (below_size (by repeat (first | (with_reducible first | exact HB.out | apply below_alloc | apply pw_below_drewN | apply below_drew1 | refine below_set ?_ GE189.out) | exact HB.out))) : w.heap.size ≤ gb190)); have n5_ := Aside0.mk ((by rw [hg]; exact Nat.ne_of_lt (blk_lt (g := gb189) (o := .cells #[.int .i64 a0_0, .int .i64 a0_1, .string a0_2] 24 (0, 0)) (by (with_reducible repeat (first | refine blk_drewN ?_ _ | refine blk_drew ?_ | refine blk_alloc ?_ _)); exact BK189.out)) : gb189 ≠ gb190)); have n6_ := Aside0.mk ((by rw [hg]; exact Nat.ne_of_gt (blk_lt (g := gb189) (o := .cells #[.int .i64 a0_0, .int .i64 a0_1, .string a0_2] 24 (0, 0)) (by (with_reducible repeat (first | refine blk_drewN ?_ _ | refine blk_drew ?_ | refine blk_alloc ?_ _)); exact BK189.out)) : gb190 ≠ gb189)); clear BK189; clear HB; have BK189 := n0_; have HB := n1_; have BK190 := n2_; have GW190 := n3_; have GE190 := n4_; have NB189_190 := n5_; have NB190_189 := n6_; clear n0_ n1_ n2_ n3_ n4_ n5_ n6_; clear hb hbox hg) | ((with_reducible refine gate_dst (N := 4) rfl ?_); refine box_event ?hg (N := 4) ?hd (cs := #[.int .i64 0, .int .i64 0, .string (⟨#[]⟩ : ByteArray)]) (t := 24) ?hr ?_; (case hd => rfl); (case hg => rfl); (case hr => first | (go_simp; done) | (go_simp; rfl)); intro gb191 hg w5 hbox hb; have n0_ := Aside0.mk (blk_below (g := gb189) (o := .cells #[.int .i64 a0_0, .int .i64 a0_1, .string a0_2] 24 (0, 0)) (by (with_reducible repeat (first | refine blk_drewN ?_ _ | refine blk_drew ?_ | refine blk_alloc ?_ _)); exact BK189.out) hb); have n1_ := Aside0.mk (blk_below (g := gb190) (o := .cells #[.int .i64 a1_0, .int .i64 a1_1, .string a1_2] 24 (0, 0)) (by (with_reducible repeat (first | refine blk_drewN ?_ _ | refine blk_drew ?_ | refine blk_alloc ?_ _)); exact BK190.out) hb); have n2_ := Aside0.mk (below_step (by repeat (first | (with_reducible first | exact HB.out | apply below_alloc | apply pw_below_drewN | apply below_drew1 | refine below_set ?_ GE189.out | refine below_set ?_ GE190.out) | exact HB.out)) hb); have n3_ := Aside0.mk (hbox); have n4_ := Aside0.mk ((by rw [hg]; exact (below_size (by repeat (first | (with_reducible first | exact HB.out | apply below_alloc | apply pw_below_drewN | apply below_drew1 | refine below_set ?_ GE189.out | refine below_set ?_ GE190.out) | exact HB.out))) : w.heap.size ≤ gb191)); have n5_ := Aside0.mk ((by rw [hg]; exact (below_size (by repeat (first | (with_reducible first | exact HB.out | apply below_alloc | apply pw_below_drewN | apply below_drew1 | refine below_set ?_ GE189.out | refine below_set ?_ GE190.out) | exact HB.out))) : w.heap.size ≤ gb191)); have n6_ := Aside0.mk ((by rw [hg]; exact Nat.ne_of_lt (blk_lt (g := gb189) (o := .cells #[.int .i64 a0_0, .int .i64 a0_1, .string a0_2] 24 (0, 0)) (by (with_reducible repeat (first | refine blk_drewN ?_ _ | refine blk_drew ?_ | refine blk_alloc ?_ _)); exact BK189.out)) : gb189 ≠ gb191)); have n7_ := Aside0.mk ((by rw [hg]; exact Nat.ne_of_gt (blk_lt (g := gb189) (o := .cells #[.int .i64 a0_0, .int .i64 a0_1, .string a0_2] 24 (0, 0)) (by (with_reducible repeat (first | refine blk_drewN ?_ _ | refine blk_drew ?_ | refine blk_alloc ?_ _)); exact BK189.out)) : gb191 ≠ gb189)); have n8_ := Aside0.mk ((by rw [hg]; exact Nat.ne_of_lt (blk_lt (g := gb190) (o := .cells #[.int .i64 a1_0, .int .i64 a1_1, .string a1_2] 24 (0, 0)) (by (with_reducible repeat (first | refine blk_drewN ?_ _ | refine blk_drew ?_ | refine blk_alloc ?_ _)); exact BK190.out)) : gb190 ≠ gb191)); have n9_ := Aside0.mk ((by rw [hg]; exact Nat.ne_of_gt (blk_lt (g := gb190) (o := .cells #[.int .i64 a1_0, .int .i64 a1_1, .string a1_2] 24 (0, 0)) (by (with_reducible repeat (first | refine blk_drewN ?_ _ | refine blk_drew ?_ | refine blk_alloc ?_ _)); exact BK190.out)) : gb191 ≠ gb190)); clear BK189; clear BK190; clear HB; have BK189 := n0_; have BK190 := n1_; have HB := n2_; have BK191 := n3_; have GW191 := n4_; have GE191 := n5_; have NB189_191 := n6_; have NB191_189 := n7_; have NB190_191 := n8_; have NB191_190 := n9_; clear n0_ n1_ n2_ n3_ n4_ n5_ n6_ n7_ n8_ n9_; clear hb hbox hg)))
 go_loopg [5, 6] k (fun kq v5 v6 w' => ∃ (x5_1 : List Int) (x6_1 : Int), v6 = .int .i64 x6_1 ∧ Aside0 (corncribref02_Times.l0 kq x5_1 x6_1 a0_0 a0_1 a0_2 a1_0 a1_1 a1_2 = some (r1, r2, r3)) ∧ Aside0 (kq ≤ k) ∧ Aside0 (Kd.R (Kd.int .u8) 5 w' w.heap.size (fun _ => True) v5 x5_1) ∧ Aside0 (w'.heap[gb189]? = some (.cells #[.int .i64 a0_0, .int .i64 a0_1, .string a0_2] 24 (0, 0))) ∧ Aside0 (w'.heap[gb190]? = some (.cells #[.int .i64 a1_0, .int .i64 a1_1, .string a1_2] 24 (0, 0))) ∧ Aside0 (w'.heap[gb191]? = some (.cells #[.int .i64 0, .int .i64 0, .string (⟨#[]⟩ : ByteArray)] 24 (0, 0))) ∧ Aside0 (Below w.heap.size w w'))
 case atStart => exact ⟨(([] : List Int)), (0), (by first | rfl | (simp; done) | (simp [*]; done)), H', ⟨Nat.le_refl _⟩, ⟨by first | exact Kd.R_nil _ _ _ _ _ | exact Kd.N_nil _ _ _ _ _ | exact Kd.V_nil _ _ _ _ _ | exact Kd.Q_nil _ _ _ _ _ | exact Kd.S_nil _ _ _ _ _⟩, ⟨by (with_reducible repeat (first | refine blk_drewN ?_ _ | refine blk_drew ?_ | refine blk_alloc ?_ _)); exact BK189.out⟩, ⟨by (with_reducible repeat (first | refine blk_drewN ?_ _ | refine blk_drew ?_ | refine blk_alloc ?_ _)); exact BK190.out⟩, ⟨by (with_reducible repeat (first | refine blk_drewN ?_ _ | refine blk_drew ?_ | refine blk_alloc ?_ _)); exact BK191.out⟩, ⟨by repeat (first | (with_reducible first | exact HB.out | apply below_alloc | apply pw_below_drewN | apply below_drew1 | refine below_set ?_ GE189.out | refine below_set ?_ GE190.out | refine below_set ?_ GE191.out) | exact HB.out)⟩⟩
 case round =>
  clear H'
  (try clear p2); (try clear c3)
  obtain ⟨x5_1, x6_1, rfl, HA, HK1, HO_5, BK189, BK190, BK191, HB⟩ := hrel
  cases gk with
  |zero => exact absurd HA.out (by simp [corncribref02_Times.l0])
  |succ k1 =>
   have H := HA.out
   clear HA
   simp only [corncribref02_Times.l0] at H
   by_cases c6 : x6_1 < a0_0
   ·rw [if_pos c6] at H
    have c6b0 : decide (x6_1 < a0_0) = true := decide_eq_true c6
    clear c6
    have H' := Aside0.mk H
    clear H
    have hnb7 := NB189_190.out
    have hnc7 := NB190_189.out
    have hnb8 := NB189_191.out
    have hnc8 := NB191_189.out
    obtain ⟨hcz9_0, hfz9_0, hcz9_1, hfz9_1, hcz9_2, hfz9_2⟩ := cfz3 BK189.out
    go_wp2
    repeat (go_quiet (fail); try go_wp2)
    go_loopg [5, 7] k1 (fun kq v5 v7 w' => ∃ (x5_2 : List Int) (x7_2 : Int), v7 = .int .i64 x7_2 ∧ Aside0 (corncribref02_Times.l1 kq x5_2 x6_1 x7_2 a0_0 a0_1 a0_2 a1_0 a1_1 a1_2 = some (r1, r2, r3)) ∧ Aside0 (kq ≤ k1) ∧ Aside0 (Kd.R (Kd.int .u8) 5 w' w.heap.size (fun _ => True) v5 x5_2) ∧ Aside0 (w'.heap[gb189]? = some (.cells #[.int .i64 a0_0, .int .i64 a0_1, .string a0_2] 24 (0, 0))) ∧ Aside0 (w'.heap[gb190]? = some (.cells #[.int .i64 a1_0, .int .i64 a1_1, .string a1_2] 24 (0, 0))) ∧ Aside0 (w'.heap[gb191]? = some (.cells #[.int .i64 0, .int .i64 0, .string (⟨#[]⟩ : ByteArray)] 24 (0, 0))) ∧ Aside0 (Below w.heap.size w w'))
    case atStart => exact ⟨(x5_1), (0), (by first | rfl | (simp; done) | (simp [*]; done)), H', ⟨Nat.le_refl _⟩, ⟨by (with_reducible repeat (first | apply Kd.R_alloc | apply Kd.R_drewN | apply Kd.R_drew)); exact HO_5.out⟩, ⟨by (with_reducible repeat (first | refine blk_drewN ?_ _ | refine blk_drew ?_ | refine blk_alloc ?_ _)); exact BK189.out⟩, ⟨by (with_reducible repeat (first | refine blk_drewN ?_ _ | refine blk_drew ?_ | refine blk_alloc ?_ _)); exact BK190.out⟩, ⟨by (with_reducible repeat (first | refine blk_drewN ?_ _ | refine blk_drew ?_ | refine blk_alloc ?_ _)); exact BK191.out⟩, ⟨by repeat (first | (with_reducible first | exact HB.out | apply below_alloc | apply pw_below_drewN | apply below_drew1 | refine below_set ?_ GE189.out | refine below_set ?_ GE190.out | refine below_set ?_ GE191.out) | exact HB.out)⟩⟩
    case round =>
     clear H'
     (try clear p2); (try clear c3); (try clear c6); (try clear c6b0); (try clear c7); (try clear c8); (try clear hcz9_0); (try clear hcz9_1); (try clear hcz9_2); (try clear hfz9_0); (try clear hfz9_1); (try clear hfz9_2); (try clear p2)
     obtain ⟨x5_2, x7_2, rfl, HA, HK2, HO_5, BK189, BK190, BK191, HB⟩ := hrel
     cases gk with
     |zero => exact absurd HA.out (by simp [corncribref02_Times.l1])
     |succ k2 =>
      have H := HA.out
      clear HA
      simp only [corncribref02_Times.l1] at H
      by_cases c10 : x7_2 < a1_1
      ·rw [if_pos c10] at H
       have c10b0 : decide (x7_2 < a1_1) = true := decide_eq_true c10
       clear c10
       have H' := Aside0.mk H
       clear H
       have hnb11 := NB190_189.out
       have hnc11 := NB189_190.out
       have hnb12 := NB190_191.out
       have hnc12 := NB191_190.out
       obtain ⟨hcz13_0, hfz13_0, hcz13_1, hfz13_1, hcz13_2, hfz13_2⟩ := cfz3 BK190.out
       go_wp2
       repeat (go_quiet (fail); try go_wp2)
       go_loopg [8, 9] k2 (fun kq v8 v9 w' => ∃ (x8_3 : Int) (x9_3 : Int), v8 = .int .u8 x8_3 ∧ v9 = .int .i64 x9_3 ∧ Aside0 (corncribref02_Times.l2 kq x5_2 x6_1 x7_2 x8_3 x9_3 a0_0 a0_1 a0_2 a1_0 a1_1 a1_2 = some (r1, r2, r3)) ∧ Aside0 (kq ≤ k2) ∧ Aside0 (Kd.R (Kd.int .u8) 5 w' w.heap.size (fun _ => True) u5 x5_2) ∧ Aside0 (w'.heap[gb189]? = some (.cells #[.int .i64 a0_0, .int .i64 a0_1, .string a0_2] 24 (0, 0))) ∧ Aside0 (w'.heap[gb190]? = some (.cells #[.int .i64 a1_0, .int .i64 a1_1, .string a1_2] 24 (0, 0))) ∧ Aside0 (w'.heap[gb191]? = some (.cells #[.int .i64 0, .int .i64 0, .string (⟨#[]⟩ : ByteArray)] 24 (0, 0))) ∧ Aside0 (Below w.heap.size w w'))
       case atStart => exact ⟨(0), (0), (by first | rfl | (simp; done) | (simp [*]; done)), (by first | rfl | (simp; done) | (simp [*]; done)), H', ⟨Nat.le_refl _⟩, ⟨by (with_reducible repeat (first | apply Kd.R_alloc | apply Kd.R_drewN | apply Kd.R_drew)); exact HO_5.out⟩, ⟨by (with_reducible repeat (first | refine blk_drewN ?_ _ | refine blk_drew ?_ | refine blk_alloc ?_ _)); exact BK189.out⟩, ⟨by (with_reducible repeat (first | refine blk_drewN ?_ _ | refine blk_drew ?_ | refine blk_alloc ?_ _)); exact BK190.out⟩, ⟨by (with_reducible repeat (first | refine blk_drewN ?_ _ | refine blk_drew ?_ | refine blk_alloc ?_ _)); exact BK191.out⟩, ⟨by repeat (first | (with_reducible first | exact HB.out | apply below_alloc | apply pw_below_drewN | apply below_drew1 | refine below_set ?_ GE189.out | refine below_set ?_ GE190.out | refine below_set ?_ GE191.out) | exact HB.out)⟩⟩
       case round =>
        clear H'
        (try clear c1); (try clear p2); (try clear c3); (try clear c6); (try clear c6b0); (try clear c7); (try clear c8); (try clear c10); (try clear c10b0); (try clear c11); (try clear c12); (try clear hcz13_0); (try clear hcz13_1); (try clear hcz13_2); (try clear hcz9_0); (try clear hcz9_1); (try clear hcz9_2); (try clear hfz13_0); (try clear hfz13_1); (try clear hfz13_2); (try clear hfz9_0); (try clear hfz9_1); (try clear hfz9_2); (try clear p2)
        obtain ⟨x8_3, x9_3, rfl, rfl, HA, HK3, HO_5, BK189, BK190, BK191, HB⟩ := hrel
        cases gk with
        |zero => exact absurd HA.out (by simp [corncribref02_Times.l2])
        |succ k3 =>
         have H := HA.out
         clear HA
         simp only [corncribref02_Times.l2] at H
         by_cases c14 : x9_3 < a0_1
         ·rw [if_pos c14] at H
          have c14b0 : decide (x9_3 < a0_1) = true := decide_eq_true c14
          clear c14
          obtain ⟨ji15, hji15⟩ : ∃ j_ : Int, (wrap64 ((wrap64 (x6_1 * a0_1)) + x9_3)) = j_ := ⟨_, rfl⟩
          replace H : (if 0 ≤ (ji15) then (if (ji15) < (a0_2.size : Int) then (if 0 ≤ (wrap64 ((wrap64 (x9_3 * a1_1)) + x7_2)) then (if (wrap64 ((wrap64 (x9_3 * a1_1)) + x7_2)) < (a1_2.size : Int) then ((corncribref01_Mul.f k3 (bt a0_2 (ji15)) (bt a1_2 (wrap64 ((wrap64 (x9_3 * a1_1)) + x7_2)))).bind fun t192 => (corncribref02_Times.l2 k3 x5_2 x6_1 x7_2 (Go.bits .xor .u8 x8_3 t192) (wrap64 (x9_3 + 1)) a0_0 a0_1 a0_2 a1_0 a1_1 a1_2)) else (none)) else (none)) else (none)) else (none)) = some (r1, r2, r3) := by first | (rw [hji15] at H; exact H) | (simp only [hji15] at H ⊢; exact H)
          have hji15w : (IntKind.i64.wrap ((wrap64 (x6_1 * a0_1)) + x9_3)) = ji15 := (i64_w _).trans hji15
          by_cases c16 : 0 ≤ (ji15)
          ·rw [if_pos c16] at H
           have c16b0 : decide (0 ≤ (ji15)) = true := decide_eq_true c16
           clear c16
           by_cases c17 : (ji15) < (a0_2.size : Int)
           ·rw [if_pos c17] at H
            have c17b0 : decide ((ji15) < (a0_2.size : Int)) = true := decide_eq_true c17
            clear c17
            obtain ⟨ji19, hji19⟩ : ∃ j_ : Int, (wrap64 ((wrap64 (x9_3 * a1_1)) + x7_2)) = j_ := ⟨_, rfl⟩
            replace H : (if 0 ≤ (ji19) then (if (ji19) < (a1_2.size : Int) then ((corncribref01_Mul.f k3 (bt a0_2 (ji15)) (bt a1_2 (ji19))).bind fun t192 => (corncribref02_Times.l2 k3 x5_2 x6_1 x7_2 (Go.bits .xor .u8 x8_3 t192) (wrap64 (x9_3 + 1)) a0_0 a0_1 a0_2 a1_0 a1_1 a1_2)) else (none)) else (none)) = some (r1, r2, r3) := by first | (rw [hji19] at H; exact H) | (simp only [hji19] at H ⊢; exact H)
            have hji19w : (IntKind.i64.wrap ((wrap64 (x9_3 * a1_1)) + x7_2)) = ji19 := (i64_w _).trans hji19
            by_cases c20 : 0 ≤ (ji19)
            ·rw [if_pos c20] at H
             have c20b0 : decide (0 ≤ (ji19)) = true := decide_eq_true c20
             clear c20
             by_cases c21 : (ji19) < (a1_2.size : Int)
             ·rw [if_pos c21] at H
              have c21b0 : decide ((ji19) < (a1_2.size : Int)) = true := decide_eq_true c21
              clear c21
              replace H := Option.bind_eq_some_iff.mp H
              obtain ⟨t192, A230, H⟩ := H
              replace H : (corncribref02_Times.l2 k3 x5_2 x6_1 x7_2 (Go.bits .xor .u8 x8_3 t192) (wrap64 (x9_3 + 1)) a0_0 a0_1 a0_2 a1_0 a1_1 a1_2) = some (r1, r2, r3) := H
              have A23 := Aside0.mk A230
              clear A230
              have H' := Aside0.mk H
              clear H
              have hnb24 := NB189_190.out
              have hnc24 := NB190_189.out
              have hnb25 := NB189_191.out
              have hnc25 := NB191_189.out
              obtain ⟨hcz26_0, hfz26_0, hcz26_1, hfz26_1, hcz26_2, hfz26_2⟩ := cfz3 BK189.out
              have p18 : 0 ≤ ((ji15) : Int) := of_decide_eq_true (by first | (with_reducible assumption) | assumption)
              have q18 : (ji15) < (a0_2.size : Int) := of_decide_eq_true (by first | (with_reducible assumption) | assumption)
              have hx18 := bt_at a0_2 (ji15)
              replace p18 := eq_true p18
              replace q18 := eq_true q18
              have hnb27 := NB190_191.out
              have hnc27 := NB191_190.out
              obtain ⟨hcz28_0, hfz28_0, hcz28_1, hfz28_1, hcz28_2, hfz28_2⟩ := cfz3 BK190.out
              have p22 : 0 ≤ ((ji19) : Int) := of_decide_eq_true (by first | (with_reducible assumption) | assumption)
              have q22 : (ji19) < (a1_2.size : Int) := of_decide_eq_true (by first | (with_reducible assumption) | assumption)
              have hx22 := bt_at a1_2 (ji19)
              replace p22 := eq_true p22
              replace q22 := eq_true q22
              go_wp2_with (first | (go_at_call 46; (with_reducible refine (corncribref01_Mul.calls k3 (bt a0_2 (ji15)) (bt a1_2 (ji19)) t192 _ A23.out).mono ?_); rintro e w' ⟨rfl, ⟨nd, rfl⟩⟩; (try first | exact ⟨rfl, _, World.drewN_drewN _ _ _⟩ | exact ⟨rfl, _, Eq.trans (World.drewN_drewN _ _ _) (congrArg (World.drewN _) (Nat.add_assoc _ _ _))⟩)))
              repeat (go_quiet (first | (go_at_call 46; (with_reducible refine (corncribref01_Mul.calls k3 (bt a0_2 (ji15)) (bt a1_2 (ji19)) t192 _ A23.out).mono ?_); rintro e w' ⟨rfl, ⟨nd, rfl⟩⟩; (try first | exact ⟨rfl, _, World.drewN_drewN _ _ _⟩ | exact ⟨rfl, _, Eq.trans (World.drewN_drewN _ _ _) (congrArg (World.drewN _) (Nat.add_assoc _ _ _))⟩))); try go_wp2_with (first | (go_at_call 46; (with_reducible refine (corncribref01_Mul.calls k3 (bt a0_2 (ji15)) (bt a1_2 (ji19)) t192 _ A23.out).mono ?_); rintro e w' ⟨rfl, ⟨nd, rfl⟩⟩; (try first | exact ⟨rfl, _, World.drewN_drewN _ _ _⟩ | exact ⟨rfl, _, Eq.trans (World.drewN_drewN _ _ _) (congrArg (World.drewN _) (Nat.add_assoc _ _ _))⟩))))
              go_roundg k3
              case measure => have := HK1.out; have := HK2.out; have := HK3.out; omega
              case rel => exact ⟨(Go.bits .xor .u8 x8_3 t192), (wrap64 (x9_3 + 1)), (by first | rfl | (simp; done) | (simp [*]; done)), (by first | rfl | (simp; done) | (simp [*]; done)), H', ⟨by have := HK1.out; have := HK2.out; have := HK3.out; omega⟩, ⟨by (with_reducible repeat (first | apply Kd.R_alloc | apply Kd.R_drewN | apply Kd.R_drew)); exact HO_5.out⟩, ⟨by (with_reducible repeat (first | refine blk_drewN ?_ _ | refine blk_drew ?_ | refine blk_alloc ?_ _)); exact BK189.out⟩, ⟨by (with_reducible repeat (first | refine blk_drewN ?_ _ | refine blk_drew ?_ | refine blk_alloc ?_ _)); exact BK190.out⟩, ⟨by (with_reducible repeat (first | refine blk_drewN ?_ _ | refine blk_drew ?_ | refine blk_alloc ?_ _)); exact BK191.out⟩, ⟨by repeat (first | (with_reducible first | exact HB.out | apply below_alloc | apply pw_below_drewN | apply below_drew1 | refine below_set ?_ GE189.out | refine below_set ?_ GE190.out | refine below_set ?_ GE191.out) | exact HB.out)⟩⟩
             ·rw [if_neg c21] at H
              exact absurd H (by simp)
            ·rw [if_neg c20] at H
             exact absurd H (by simp)
           ·rw [if_neg c17] at H
            exact absurd H (by simp)
          ·rw [if_neg c16] at H
           exact absurd H (by simp)
         ·rw [if_neg c14] at H
          have c14b0 : decide (x9_3 < a0_1) = false := decide_eq_false c14
          clear c14
          by_cases c29 : x5_2.length < 140737488355328
          ·rw [if_pos c29] at H
           have LMc29 := Aside0.mk c29
           clear c29
           obtain ⟨y193, hy193⟩ : ∃ y_ : List Int, y_ = (x5_2 ++ [x8_3]) := ⟨_, rfl⟩
           replace H : (corncribref02_Times.l1 k3 y193 x6_1 (wrap64 (x7_2 + 1)) a0_0 a0_1 a0_2 a1_0 a1_1 a1_2) = some (r1, r2, r3) := by first | (rw [hy193]; with_reducible exact H) | (have H2_ := (Option.bind_some _ _).symm.trans H; rw [hy193]; with_reducible exact H2_) | (have H2_ := (Option.bind_some _ _).symm.trans H; with_reducible exact H2_) | with_reducible exact H | (rw [hy193]; exact H) | exact H
           have Ny193 := Aside0.mk hy193
           clear hy193
           have H' := Aside0.mk H
           clear H
           have hnb30 := NB189_190.out
           have hnc30 := NB190_189.out
           have hnb31 := NB189_191.out
           have hnc31 := NB191_189.out
           obtain ⟨hcz32_0, hfz32_0, hcz32_1, hfz32_1, hcz32_2, hfz32_2⟩ := cfz3 BK189.out
           go_wp2_with (first | ((with_reducible refine gate_builtin (b := .append) (xs := #[.tmp 49, .tmp 51]) rfl ?_); at_builtin; refine Kd.R_append (Kd.int .u8) (w0 := w) w.heap.size rfl (.tmp 49) (.tmp 51) 54 5 (.int .u8 0) 1 rfl Try.underlying54 info5 rfl (by decide) (by omega) u5 x5_2 x8_3 [.int .u8 x8_3] (fun _ => True) (fun _ => False) rfl rfl ?aP (fun _ hk => hk.elim) ?aF ?aO ?aB ?aS ?aL ?_; (case aP => exact rfl); (case aB => exact (by repeat (first | (with_reducible first | exact HB.out | apply below_alloc | apply pw_below_drewN | apply below_drew1 | refine below_set ?_ GE189.out | refine below_set ?_ GE190.out | refine below_set ?_ GE191.out) | exact HB.out))); (case aF => exact (fun _ _ => trivial)); (case aO => exact (by (with_reducible repeat (first | apply Kd.R_alloc | apply Kd.R_drewN | apply Kd.R_drew)); exact HO_5.out)); (case aS => exact (below_size (by repeat (first | (with_reducible first | exact HB.out | apply below_alloc | apply pw_below_drewN | apply below_drew1 | refine below_set ?_ GE189.out | refine below_set ?_ GE190.out | refine below_set ?_ GE191.out) | exact HB.out)))); (case aL => have := LMc29.out; omega); intro v194 w33 ho hb hg hat; rw [← Ny193.out] at ho; have n0_ := Aside0.mk (blk_grown (g := gb189) (o := .cells #[.int .i64 a0_0, .int .i64 a0_1, .string a0_2] 24 (0, 0)) (by (with_reducible repeat (first | refine blk_drewN ?_ _ | refine blk_drew ?_ | refine blk_alloc ?_ _)); exact BK189.out) hg (Kd.R_ne HO_5.out BK189.out (by decide))); have n1_ := Aside0.mk (blk_grown (g := gb190) (o := .cells #[.int .i64 a1_0, .int .i64 a1_1, .string a1_2] 24 (0, 0)) (by (with_reducible repeat (first | refine blk_drewN ?_ _ | refine blk_drew ?_ | refine blk_alloc ?_ _)); exact BK190.out) hg (Kd.R_ne HO_5.out BK190.out (by decide))); have n2_ := Aside0.mk (blk_grown (g := gb191) (o := .cells #[.int .i64 0, .int .i64 0, .string (⟨#[]⟩ : ByteArray)] 24 (0, 0)) (by (with_reducible repeat (first | refine blk_drewN ?_ _ | refine blk_drew ?_ | refine blk_alloc ?_ _)); exact BK191.out) hg (Kd.R_ne HO_5.out BK191.out (by decide))); have n3_ := Aside0.mk (hb); have n4_ := Aside0.mk (ho); clear BK189; clear BK190; clear BK191; clear HB; clear HO_5; have BK189 := n0_; have BK190 := n1_; have BK191 := n2_; have HB := n3_; have HO195 := n4_; clear n0_ n1_ n2_ n3_ n4_; clear ho hb hg hat))
           repeat (go_quiet (first | ((with_reducible refine gate_builtin (b := .append) (xs := #[.tmp 49, .tmp 51]) rfl ?_); at_builtin; refine Kd.R_append (Kd.int .u8) (w0 := w) w.heap.size rfl (.tmp 49) (.tmp 51) 54 5 (.int .u8 0) 1 rfl Try.underlying54 info5 rfl (by decide) (by omega) u5 x5_2 x8_3 [.int .u8 x8_3] (fun _ => True) (fun _ => False) rfl rfl ?aP (fun _ hk => hk.elim) ?aF ?aO ?aB ?aS ?aL ?_; (case aP => exact rfl); (case aB => exact (by repeat (first | (with_reducible first | exact HB.out | apply below_alloc | apply pw_below_drewN | apply below_drew1 | refine below_set ?_ GE189.out | refine below_set ?_ GE190.out | refine below_set ?_ GE191.out) | exact HB.out))); (case aF => exact (fun _ _ => trivial)); (case aO => exact (by (with_reducible repeat (first | apply Kd.R_alloc | apply Kd.R_drewN | apply Kd.R_drew)); exact HO_5.out)); (case aS => exact (below_size (by repeat (first | (with_reducible first | exact HB.out | apply below_alloc | apply pw_below_drewN | apply below_drew1 | refine below_set ?_ GE189.out | refine below_set ?_ GE190.out | refine below_set ?_ GE191.out) | exact HB.out)))); (case aL => have := LMc29.out; omega); intro v194 w33 ho hb hg hat; rw [← Ny193.out] at ho; have n0_ := Aside0.mk (blk_grown (g := gb189) (o := .cells #[.int .i64 a0_0, .int .i64 a0_1, .string a0_2] 24 (0, 0)) (by (with_reducible repeat (first | refine blk_drewN ?_ _ | refine blk_drew ?_ | refine blk_alloc ?_ _)); exact BK189.out) hg (Kd.R_ne HO_5.out BK189.out (by decide))); have n1_ := Aside0.mk (blk_grown (g := gb190) (o := .cells #[.int .i64 a1_0, .int .i64 a1_1, .string a1_2] 24 (0, 0)) (by (with_reducible repeat (first | refine blk_drewN ?_ _ | refine blk_drew ?_ | refine blk_alloc ?_ _)); exact BK190.out) hg (Kd.R_ne HO_5.out BK190.out (by decide))); have n2_ := Aside0.mk (blk_grown (g := gb191) (o := .cells #[.int .i64 0, .int .i64 0, .string (⟨#[]⟩ : ByteArray)] 24 (0, 0)) (by (with_reducible repeat (first | refine blk_drewN ?_ _ | refine blk_drew ?_ | refine blk_alloc ?_ _)); exact BK191.out) hg (Kd.R_ne HO_5.out BK191.out (by decide))); have n3_ := Aside0.mk (hb); have n4_ := Aside0.mk (ho); clear BK189; clear BK190; clear BK191; clear HB; clear HO_5; have BK189 := n0_; have BK190 := n1_; have BK191 := n2_; have HB := n3_; have HO195 := n4_; clear n0_ n1_ n2_ n3_ n4_; clear ho hb hg hat)); try go_wp2_with (first | ((with_reducible refine gate_builtin (b := .append) (xs := #[.tmp 49, .tmp 51]) rfl ?_); at_builtin; refine Kd.R_append (Kd.int .u8) (w0 := w) w.heap.size rfl (.tmp 49) (.tmp 51) 54 5 (.int .u8 0) 1 rfl Try.underlying54 info5 rfl (by decide) (by omega) u5 x5_2 x8_3 [.int .u8 x8_3] (fun _ => True) (fun _ => False) rfl rfl ?aP (fun _ hk => hk.elim) ?aF ?aO ?aB ?aS ?aL ?_; (case aP => exact rfl); (case aB => exact (by repeat (first | (with_reducible first | exact HB.out | apply below_alloc | apply pw_below_drewN | apply below_drew1 | refine below_set ?_ GE189.out | refine below_set ?_ GE190.out | refine below_set ?_ GE191.out) | exact HB.out))); (case aF => exact (fun _ _ => trivial)); (case aO => exact (by (with_reducible repeat (first | apply Kd.R_alloc | apply Kd.R_drewN | apply Kd.R_drew)); exact HO_5.out)); (case aS => exact (below_size (by repeat (first | (with_reducible first | exact HB.out | apply below_alloc | apply pw_below_drewN | apply below_drew1 | refine below_set ?_ GE189.out | refine below_set ?_ GE190.out | refine below_set ?_ GE191.out) | exact HB.out)))); (case aL => have := LMc29.out; omega); intro v194 w33 ho hb hg hat; rw [← Ny193.out] at ho; have n0_ := Aside0.mk (blk_grown (g := gb189) (o := .cells #[.int .i64 a0_0, .int .i64 a0_1, .string a0_2] 24 (0, 0)) (by (with_reducible repeat (first | refine blk_drewN ?_ _ | refine blk_drew ?_ | refine blk_alloc ?_ _)); exact BK189.out) hg (Kd.R_ne HO_5.out BK189.out (by decide))); have n1_ := Aside0.mk (blk_grown (g := gb190) (o := .cells #[.int .i64 a1_0, .int .i64 a1_1, .string a1_2] 24 (0, 0)) (by (with_reducible repeat (first | refine blk_drewN ?_ _ | refine blk_drew ?_ | refine blk_alloc ?_ _)); exact BK190.out) hg (Kd.R_ne HO_5.out BK190.out (by decide))); have n2_ := Aside0.mk (blk_grown (g := gb191) (o := .cells #[.int .i64 0, .int .i64 0, .string (⟨#[]⟩ : ByteArray)] 24 (0, 0)) (by (with_reducible repeat (first | refine blk_drewN ?_ _ | refine blk_drew ?_ | refine blk_alloc ?_ _)); exact BK191.out) hg (Kd.R_ne HO_5.out BK191.out (by decide))); have n3_ := Aside0.mk (hb); have n4_ := Aside0.mk (ho); clear BK189; clear BK190; clear BK191; clear HB; clear HO_5; have BK189 := n0_; have BK190 := n1_; have BK191 := n2_; have HB := n3_; have HO195 := n4_; clear n0_ n1_ n2_ n3_ n4_; clear ho hb hg hat)))
           go_roundg k3
           case measure => have := HK1.out; have := HK2.out; have := HK3.out; omega
           case rel => exact ⟨(y193), (wrap64 (x7_2 + 1)), (by first | rfl | (simp; done) | (simp [*]; done)), H', ⟨by have := HK1.out; have := HK2.out; have := HK3.out; omega⟩, ⟨by (with_reducible repeat (first | apply Kd.R_alloc | apply Kd.R_drewN | apply Kd.R_drew)); exact HO195.out⟩, ⟨by (with_reducible repeat (first | refine blk_drewN ?_ _ | refine blk_drew ?_ | refine blk_alloc ?_ _)); exact BK189.out⟩, ⟨by (with_reducible repeat (first | refine blk_drewN ?_ _ | refine blk_drew ?_ | refine blk_alloc ?_ _)); exact BK190.out⟩, ⟨by (with_reducible repeat (first | refine blk_drewN ?_ _ | refine blk_drew ?_ | refine blk_alloc ?_ _)); exact BK191.out⟩, ⟨by repeat (first | (with_reducible first | exact HB.out | apply below_alloc | apply pw_below_drewN | apply below_drew1 | refine below_set ?_ GE189.out | refine below_set ?_ GE190.out | refine below_set ?_ GE191.out) | exact HB.out)⟩⟩
          ·rw [if_neg c29] at H
           exact absurd H (by simp)
      ·rw [if_neg c10] at H
       have c10b0 : decide (x7_2 < a1_1) = false := decide_eq_false c10
       clear c10
       have H' := Aside0.mk H
       clear H
       have hnb34 := NB190_189.out
       have hnc34 := NB189_190.out
       have hnb35 := NB190_191.out
       have hnc35 := NB191_190.out
       obtain ⟨hcz36_0, hfz36_0, hcz36_1, hfz36_1, hcz36_2, hfz36_2⟩ := cfz3 BK190.out
       go_wp2
       repeat (go_quiet (fail); try go_wp2)
       go_roundg k2
       case measure => have := HK1.out; have := HK2.out; omega
       case rel => exact ⟨(x5_2), (wrap64 (x6_1 + 1)), (by first | rfl | (simp; done) | (simp [*]; done)), H', ⟨by have := HK1.out; have := HK2.out; omega⟩, ⟨by (with_reducible repeat (first | apply Kd.R_alloc | apply Kd.R_drewN | apply Kd.R_drew)); exact HO_5.out⟩, ⟨by (with_reducible repeat (first | refine blk_drewN ?_ _ | refine blk_drew ?_ | refine blk_alloc ?_ _)); exact BK189.out⟩, ⟨by (with_reducible repeat (first | refine blk_drewN ?_ _ | refine blk_drew ?_ | refine blk_alloc ?_ _)); exact BK190.out⟩, ⟨by (with_reducible repeat (first | refine blk_drewN ?_ _ | refine blk_drew ?_ | refine blk_alloc ?_ _)); exact BK191.out⟩, ⟨by repeat (first | (with_reducible first | exact HB.out | apply below_alloc | apply pw_below_drewN | apply below_drew1 | refine below_set ?_ GE189.out | refine below_set ?_ GE190.out | refine below_set ?_ GE191.out) | exact HB.out)⟩⟩
   ·rw [if_neg c6] at H
    have c6b0 : decide (x6_1 < a0_0) = false := decide_eq_false c6
    clear c6
    simp only [Option.some.injEq, Prod.mk.injEq] at H
    obtain ⟨rfl, rfl, rfl⟩ := H
    have hnb37 := NB189_190.out
    have hnc37 := NB190_189.out
    have hnb38 := NB189_191.out
    have hnc38 := NB191_189.out
    obtain ⟨hcz39_0, hfz39_0, hcz39_1, hfz39_1, hcz39_2, hfz39_2⟩ := cfz3 BK189.out
    have hnb40 := NB190_191.out
    have hnc40 := NB191_190.out
    obtain ⟨hcz41_0, hfz41_0, hcz41_1, hfz41_1, hcz41_2, hfz41_2⟩ := cfz3 BK190.out
    have hcv42 := own_string (P := Try.prog) Try.underlying54 Try.underlying5 Try.underlying9 (Kd.own_of_R HO_5.out)
    obtain ⟨hcz43_0, hfz43_0, hcz43_1, hfz43_1, hcz43_2, hfz43_2⟩ := cfz3 BK191.out
    go_wp2
    repeat (go_quiet (fail); try go_wp2)
    refine bodyPost_ret (results_cell_row rfl _ _ gb191 24 #[.int .i64 a0_0, .int .i64 a1_1, .string (strOfNums x5_1)] (0, 0) _ rfl (by (with_reducible repeat (first | refine blk_drewN ?_ _ | refine blk_drew ?_ | refine blk_alloc ?_ _)); refine blk_put (cs := #[.int .i64 a0_0, .int .i64 a1_1, .string (⟨#[]⟩ : ByteArray)]) ?_ 2 _ rfl; (with_reducible repeat (first | refine blk_drewN ?_ _ | refine blk_drew ?_ | refine blk_alloc ?_ _)); refine blk_put (cs := #[.int .i64 a0_0, .int .i64 0, .string (⟨#[]⟩ : ByteArray)]) ?_ 1 _ rfl; (with_reducible repeat (first | refine blk_drewN ?_ _ | refine blk_drew ?_ | refine blk_alloc ?_ _)); refine blk_put (cs := #[.int .i64 0, .int .i64 0, .string (⟨#[]⟩ : ByteArray)]) ?_ 0 _ rfl; (with_reducible repeat (first | refine blk_drewN ?_ _ | refine blk_drew ?_ | refine blk_alloc ?_ _)); exact BK191.out) Try.underlying24 rfl (by kernel_rfl)) rfl ?_
    exact ⟨by first | rfl | (simp [errW_none, errW_some] <;> rfl) | (simp [*, errW_none, errW_some] <;> rfl), by repeat (first | (with_reducible first | exact HB.out | apply below_alloc | apply pw_below_drewN | apply below_drew1 | refine below_set ?_ GE189.out | refine below_set ?_ GE190.out | refine below_set ?_ GE191.out) | exact HB.out)⟩

end Go.Proofs.Ytoghhpkmficnmaa.Al

/- One function of the program comes to what its plain twin says. This text began as the kit's own print (print.py, made by cprint.sh) and was turned by split.py: it is no printed file. -/
namespace Go.Proofs.Ytoghhpkmficnmaa.Al
open Go.RowKit Go.Proofs.YtoghhpkmficnmaaW.PrintWords Go.Proofs.YtoghhpkmficnmaaW.PrintLast Go.Proofs.YtoghhpkmficnmaaW.PrintMore
attribute [local go_sem] max2_int min2_int max_two min_two max_three min_three max_four min_four   -- for this text's walks alone
set_option linter.unusedVariables false
set_option linter.unusedSimpArgs false

attribute [local go_sem high] eqA24
/-! ### corncribref02_Mul: function 22 -/
def corncribref02_Mul.f (k : Nat) (a0_0 : Int) (a0_1 : Int) (a0_2 : ByteArray) (a1_0 : Int) (a1_1 : Int) (a1_2 : ByteArray) : Option (Int × Int × ByteArray × Int) := (corncribref02_Check.f a0_0 a0_1 a0_2).bind fun t199 => (if t199 = 0 then ((corncribref02_Check.f a1_0 a1_1 a1_2).bind fun t200 => (if t200 = 0 then (if a0_1 = a1_0 then ((corncribref02_Times.f k a0_0 a0_1 a0_2 a1_0 a1_1 a1_2).bind fun bt201 => (some (bt201.1, bt201.2.1, bt201.2.2, 0))) else (some (0, 0, (⟨#[]⟩ : ByteArray), 4))) else (some (0, 0, (⟨#[]⟩ : ByteArray), 4)))) else (some (0, 0, (⟨#[]⟩ : ByteArray), 4)))
theorem corncribref02_Mul.mono : ∀ a0 a1 a2 a3 a4 a5 k, LeO (corncribref02_Mul.f k a0 a1 a2 a3 a4 a5) (corncribref02_Mul.f (k + 1) a0 a1 a2 a3 a4 a5) := by
 intro a0 a1 a2 a3 a4 a5 k
 unfold corncribref02_Mul.f
 repeat' first
   |(with_reducible exact corncribref02_Times.mono _ _ _ _ _ _ _)
   |(with_reducible exact LeO.refl _)
   |(with_reducible exact LeO.none _)
   |(with_reducible refine LeO.ite ?_ ?_)
   |(with_reducible refine LeO.bind ?_ (fun _ => ?_))
   |exact corncribref02_Times.mono _ _ _ _ _ _ _
   |exact LeO.none _
   |refine LeO.ite ?_ ?_
   |refine LeO.bind ?_ (fun _ => ?_)
set_option maxHeartbeats 8000000 in
set_option maxRecDepth 100000 in
theorem corncribref02_Mul.calls (k : Nat) (a0_0 : Int) (a0_1 : Int) (a0_2 : ByteArray) (a1_0 : Int) (a1_1 : Int) (a1_2 : ByteArray) (r1 : Int) (r2 : Int) (r3 : ByteArray) (r4 : Int) (w : World) (h : corncribref02_Mul.f k a0_0 a0_1 a0_2 a1_0 a1_1 a1_2 = some (r1, r2, r3, r4)) :
  Calls Try.prog 22 #[.agg #[.int .i64 a0_0, .int .i64 a0_1, .string a0_2], .agg #[.int .i64 a1_0, .int .i64 a1_1, .string a1_2]] w fun e w' => e = .returned (.tuple #[.agg #[.int .i64 r1, .int .i64 r2, .string r3], .int .i64 r4]) ∧ Below w.heap.size w w' := by
 have hu24 := Try.underlying24
 have HB := Aside0.mk (Below.refl w.heap.size w)
 have H : ((corncribref02_Check.f a0_0 a0_1 a0_2).bind fun t199 => (if t199 = 0 then ((corncribref02_Check.f a1_0 a1_1 a1_2).bind fun t200 => (if t200 = 0 then (if a0_1 = a1_0 then ((corncribref02_Times.f k a0_0 a0_1 a0_2 a1_0 a1_1 a1_2).bind fun bt201 => (some (bt201.1, bt201.2.1, bt201.2.2, 0))) else (some (0, 0, (⟨#[]⟩ : ByteArray), 4))) else (some (0, 0, (⟨#[]⟩ : ByteArray), 4)))) else (some (0, 0, (⟨#[]⟩ : ByteArray), 4)))) = some (r1, r2, r3, r4) := h
 clear h
 replace H := Option.bind_eq_some_iff.mp H
 obtain ⟨t199, A30, H⟩ := H
 replace H : (if t199 = 0 then ((corncribref02_Check.f a1_0 a1_1 a1_2).bind fun t200 => (if t200 = 0 then (if a0_1 = a1_0 then ((corncribref02_Times.f k a0_0 a0_1 a0_2 a1_0 a1_1 a1_2).bind fun bt201 => (some (bt201.1, bt201.2.1, bt201.2.2, 0))) else (some (0, 0, (⟨#[]⟩ : ByteArray), 4))) else (some (0, 0, (⟨#[]⟩ : ByteArray), 4)))) else (some (0, 0, (⟨#[]⟩ : ByteArray), 4))) = some (r1, r2, r3, r4) := H
 have A3 := Aside0.mk A30
 clear A30
 by_cases c4 : t199 = 0
 ·rw [if_pos c4] at H
  have c4b0 : (t199 == 0) = true := beq_iff_eq.mpr c4
  have c4b1 : (t199 != 0) = false := bne_eq_false_iff_eq.mpr c4
  clear c4
  replace H := Option.bind_eq_some_iff.mp H
  obtain ⟨t200, A50, H⟩ := H
  replace H : (if t200 = 0 then (if a0_1 = a1_0 then ((corncribref02_Times.f k a0_0 a0_1 a0_2 a1_0 a1_1 a1_2).bind fun bt201 => (some (bt201.1, bt201.2.1, bt201.2.2, 0))) else (some (0, 0, (⟨#[]⟩ : ByteArray), 4))) else (some (0, 0, (⟨#[]⟩ : ByteArray), 4))) = some (r1, r2, r3, r4) := H
  have A5 := Aside0.mk A50
  clear A50
  by_cases c6 : t200 = 0
  ·rw [if_pos c6] at H
   have c6b0 : (t200 == 0) = true := beq_iff_eq.mpr c6
   have c6b1 : (t200 != 0) = false := bne_eq_false_iff_eq.mpr c6
   clear c6
   by_cases c7 : a0_1 = a1_0
   ·rw [if_pos c7] at H
    have c7b0 : (a0_1 == a1_0) = true := beq_iff_eq.mpr c7
    have c7b1 : (a0_1 != a1_0) = false := bne_eq_false_iff_eq.mpr c7
    clear c7
    replace H := Option.bind_eq_some_iff.mp H
    obtain ⟨⟨t201, t202, t203⟩, A80, H⟩ := H
    replace H : (some (t201, t202, t203, 0)) = some (r1, r2, r3, r4) := H
    have A8 := Aside0.mk A80
    clear A80
    simp only [Option.some.injEq, Prod.mk.injEq] at H
    obtain ⟨rfl, rfl, rfl, rfl⟩ := H
    go_enter Try.func22, Try.ntmps22
    go_wp2_with (first | ((with_reducible refine gate_dst (N := 2) rfl ?_); refine box_event ?hg (N := 2) ?hd (cs := #[.int .i64 a0_0, .int .i64 a0_1, .string a0_2]) (t := 24) ?hr ?_; (case hd => rfl); (case hg => rfl); (case hr => first | (go_simp; done) | (go_simp; rfl)); intro gb196 hg w9 hbox hb; have n0_ := Aside0.mk (below_step (by repeat (first | (with_reducible first | exact HB.out | apply below_alloc | apply pw_below_drewN | apply below_drew1) | exact HB.out)) hb); have n1_ := Aside0.mk (hbox); have n2_ := Aside0.mk ((by rw [hg]; exact (below_size (by repeat (first | (with_reducible first | exact HB.out | apply below_alloc | apply pw_below_drewN | apply below_drew1) | exact HB.out))) : w.heap.size ≤ gb196)); have n3_ := Aside0.mk ((by rw [hg]; exact (below_size (by repeat (first | (with_reducible first | exact HB.out | apply below_alloc | apply pw_below_drewN | apply below_drew1) | exact HB.out))) : w.heap.size ≤ gb196)); clear HB; have HB := n0_; have BK196 := n1_; have GW196 := n2_; have GE196 := n3_; clear n0_ n1_ n2_ n3_; clear hb hbox hg) | ((with_reducible refine gate_dst (N := 3) rfl ?_); refine box_event ?hg (N := 3) ?hd (cs := #[.int .i64 a1_0, .int .i64 a1_1, .string a1_2]) (t := 24) ?hr ?_; (case hd => rfl); (case hg => rfl); (case hr => first | (go_simp; done) | (go_simp; rfl)); intro gb197 hg w10 hbox hb; have n0_ := Aside0.mk (blk_below (g := gb196) (o := .cells #[.int .i64 a0_0, .int .i64 a0_1, .string a0_2] 24 (0, 0)) (by (with_reducible repeat (first | refine blk_drewN ?_ _ | refine blk_drew ?_ | refine blk_alloc ?_ _)); exact BK196.out) hb); have n1_ := Aside0.mk (below_step (by repeat (first | (with_reducible first | exact HB.out | apply below_alloc | apply pw_below_drewN | apply below_drew1 | refine below_set ?_ GE196.out) | exact HB.out)) hb); have n2_ := Aside0.mk (hbox); have n3_ := Aside0.mk ((by rw [hg]; exact (below_size (by repeat (first | (with_reducible first | exact HB.out | apply below_alloc | apply pw_below_drewN | apply below_drew1 | refine below_set ?_ GE196.out) | exact HB.out))) : w.heap.size ≤ gb197)); have n4_ := Aside0.mk ((by rw [hg]; exact (below_size (by repeat (first | (with_reducible first | exact HB.out | apply below_alloc | apply pw_below_drewN | apply below_drew1 | refine below_set ?_ GE196.out) | exact HB.out))) : w.heap.size ≤ gb197)); have n5_ := Aside0.mk ((by rw [hg]; exact Nat.ne_of_lt (blk_lt (g := gb196) (o := .cells #[.int .i64 a0_0, .int .i64 a0_1, .string a0_2] 24 (0, 0)) (by (with_reducible repeat (first | refine blk_drewN ?_ _ | refine blk_drew ?_ | refine blk_alloc ?_ _)); exact BK196.out)) : gb196 ≠ gb197)); have n6_ := Aside0.mk ((by rw [hg]; exact Nat.ne_of_gt (blk_lt (g := gb196) (o := .cells #[.int .i64 a0_0, .int .i64 a0_1, .string a0_2] 24 (0, 0)) (by (with_reducible repeat (first | refine blk_drewN ?_ _ | refine blk_drew ?_ | refine blk_alloc ?_ _)); exact BK196.out)) : gb197 ≠ gb196)); clear BK196; clear HB; have BK196 := n0_; have HB := n1_; have BK197 := n2_; have GW197 := n3_; have GE197 := n4_; have NB196_197 := n5_; have NB197_196 := n6_; clear n0_ n1_ n2_ n3_ n4_ n5_ n6_; clear hb hbox hg) | ((with_reducible refine gate_dst (N := 4) rfl ?_); refine box_event ?hg (N := 4) ?hd (cs := #[.int .i64 0, .int .i64 0, .string (⟨#[]⟩ : ByteArray)]) (t := 24) ?hr ?_; (case hd => rfl); (case hg => rfl); (case hr => first | (go_simp; done) | (go_simp; rfl)); intro gb198 hg w11 hbox hb; have n0_ := Aside0.mk (blk_below (g := gb196) (o := .cells #[.int .i64 a0_0, .int .i64 a0_1, .string a0_2] 24 (0, 0)) (by (with_reducible repeat (first | refine blk_drewN ?_ _ | refine blk_drew ?_ | refine blk_alloc ?_ _)); exact BK196.out) hb); have n1_ := Aside0.mk (blk_below (g := gb197) (o := .cells #[.int .i64 a1_0, .int .i64 a1_1, .string a1_2] 24 (0, 0)) (by (with_reducible repeat (first | refine blk_drewN ?_ _ | refine blk_drew ?_ | refine blk_alloc ?_ _)); exact BK197.out) hb); have n2_ := Aside0.mk (below_step (by repeat (first | (with_reducible first | exact HB.out | apply below_alloc | apply pw_below_drewN | apply below_drew1 | refine below_set ?_ GE196.out | refine below_set ?_ GE197.out) | exact HB.out)) hb); have n3_ := Aside0.mk (hbox); have n4_ := Aside0.mk ((by rw [hg]; exact (below_size (by repeat (first | (with_reducible first | exact HB.out | apply below_alloc | apply pw_below_drewN | apply below_drew1 | refine below_set ?_ GE196.out | refine below_set ?_ GE197.out) | exact HB.out))) : w.heap.size ≤ gb198)); have n5_ := Aside0.mk ((by rw [hg]; exact (below_size (by repeat (first | (with_reducible first | exact HB.out | apply below_alloc | apply pw_below_drewN | apply below_drew1 | refine below_set ?_ GE196.out | refine below_set ?_ GE197.out) | exact HB.out))) : w.heap.size ≤ gb198)); have n6_ := Aside0.mk ((by rw [hg]; exact Nat.ne_of_lt (blk_lt (g := gb196) (o := .cells #[.int .i64 a0_0, .int .i64 a0_1, .string a0_2] 24 (0, 0)) (by (with_reducible repeat (first | refine blk_drewN ?_ _ | refine blk_drew ?_ | refine blk_alloc ?_ _)); exact BK196.out)) : gb196 ≠ gb198)); have n7_ := Aside0.mk ((by rw [hg]; exact Nat.ne_of_gt (blk_lt (g := gb196) (o := .cells #[.int .i64 a0_0, .int .i64 a0_1, .string a0_2] 24 (0, 0)) (by (with_reducible repeat (first | refine blk_drewN ?_ _ | refine blk_drew ?_ | refine blk_alloc ?_ _)); exact BK196.out)) : gb198 ≠ gb196)); have n8_ := Aside0.mk ((by rw [hg]; exact Nat.ne_of_lt (blk_lt (g := gb197) (o := .cells #[.int .i64 a1_0, .int .i64 a1_1, .string a1_2] 24 (0, 0)) (by (with_reducible repeat (first | refine blk_drewN ?_ _ | refine blk_drew ?_ | refine blk_alloc ?_ _)); exact BK197.out)) : gb197 ≠ gb198)); have n9_ := Aside0.mk ((by rw [hg]; exact Nat.ne_of_gt (blk_lt (g := gb197) (o := .cells #[.int .i64 a1_0, .int .i64 a1_1, .string a1_2] 24 (0, 0)) (by (with_reducible repeat (first | refine blk_drewN ?_ _ | refine blk_drew ?_ | refine blk_alloc ?_ _)); exact BK197.out)) : gb198 ≠ gb197)); clear BK196; clear BK197; clear HB; have BK196 := n0_; have BK197 := n1_; have HB := n2_; have BK198 := n3_; have GW198 := n4_; have GE198 := n5_; have NB196_198 := n6_; have NB198_196 := n7_; have NB197_198 := n8_; have NB198_197 := n9_; clear n0_ n1_ n2_ n3_ n4_ n5_ n6_ n7_ n8_ n9_; clear hb hbox hg; have hnb12 := NB196_197.out; have hnc12 := NB197_196.out; have hnb13 := NB196_198.out; have hnc13 := NB198_196.out; have hcz14_0 : w11.cell? ⟨gb196, 0, none⟩ = some (.int .i64 a0_0) := (blk_cell BK196.out 0).trans rfl; have hcz14_1 : w11.cell? ⟨gb196, 1, none⟩ = some (.int .i64 a0_1) := (blk_cell BK196.out 1).trans rfl; have hcz14_2 : w11.cell? ⟨gb196, 2, none⟩ = some (.string a0_2) := (blk_cell BK196.out 2).trans rfl; have hfz14_0 := blk_frozen BK196.out 0; have hfz14_1 := blk_frozen BK196.out 1; have hfz14_2 := blk_frozen BK196.out 2) | ((with_reducible refine gate_callee (f := 19) rfl ?_); refine goesL_ (some 7) rfl rfl Try.func19 (by kernel_rfl) rfl #[.agg #[.int .i64 a0_0, .int .i64 a0_1, .string a0_2]] rfl (by (try simp only [List.map_toArray, List.map_cons, List.map_nil]); first | done | rfl | (simp only [List.length_drop, List.length_take]; rfl)) ?_; (with_reducible refine (corncribref02_Check.calls a0_0 a0_1 a0_2 t199 _ A3.out).mono ?_); rintro e w15 ⟨rfl, hb⟩; refine ⟨_, rfl, ?_⟩; have n0_ := Aside0.mk (blk_below (g := gb196) (o := .cells #[.int .i64 a0_0, .int .i64 a0_1, .string a0_2] 24 (0, 0)) (by (with_reducible repeat (first | refine blk_drewN ?_ _ | refine blk_drew ?_ | refine blk_alloc ?_ _)); exact BK196.out) hb); have n1_ := Aside0.mk (blk_below (g := gb197) (o := .cells #[.int .i64 a1_0, .int .i64 a1_1, .string a1_2] 24 (0, 0)) (by (with_reducible repeat (first | refine blk_drewN ?_ _ | refine blk_drew ?_ | refine blk_alloc ?_ _)); exact BK197.out) hb); have n2_ := Aside0.mk (blk_below (g := gb198) (o := .cells #[.int .i64 0, .int .i64 0, .string (⟨#[]⟩ : ByteArray)] 24 (0, 0)) (by (with_reducible repeat (first | refine blk_drewN ?_ _ | refine blk_drew ?_ | refine blk_alloc ?_ _)); exact BK198.out) hb); have n3_ := Aside0.mk (below_step (by repeat (first | (with_reducible first | exact HB.out | apply below_alloc | apply pw_below_drewN | apply below_drew1 | refine below_set ?_ GE196.out | refine below_set ?_ GE197.out | refine below_set ?_ GE198.out) | exact HB.out)) hb); clear BK196; clear BK197; clear BK198; clear HB; have BK196 := n0_; have BK197 := n1_; have BK198 := n2_; have HB := n3_; clear n0_ n1_ n2_ n3_; (try clear hb); (try clear hb2); (try clear hk); (try clear hi); have hnb16 := NB197_198.out; have hnc16 := NB198_197.out; have hcz17_0 : w15.cell? ⟨gb197, 0, none⟩ = some (.int .i64 a1_0) := (blk_cell BK197.out 0).trans rfl; have hcz17_1 : w15.cell? ⟨gb197, 1, none⟩ = some (.int .i64 a1_1) := (blk_cell BK197.out 1).trans rfl; have hcz17_2 : w15.cell? ⟨gb197, 2, none⟩ = some (.string a1_2) := (blk_cell BK197.out 2).trans rfl; have hfz17_0 := blk_frozen BK197.out 0; have hfz17_1 := blk_frozen BK197.out 1; have hfz17_2 := blk_frozen BK197.out 2) | (go_at_call 19; (with_reducible refine (corncribref02_Check.calls a1_0 a1_1 a1_2 t200 _ A5.out).mono ?_); rintro e w18 ⟨rfl, hb⟩; have n0_ := Aside0.mk (blk_below (g := gb196) (o := .cells #[.int .i64 a0_0, .int .i64 a0_1, .string a0_2] 24 (0, 0)) (by (with_reducible repeat (first | refine blk_drewN ?_ _ | refine blk_drew ?_ | refine blk_alloc ?_ _)); exact BK196.out) hb); have n1_ := Aside0.mk (blk_below (g := gb197) (o := .cells #[.int .i64 a1_0, .int .i64 a1_1, .string a1_2] 24 (0, 0)) (by (with_reducible repeat (first | refine blk_drewN ?_ _ | refine blk_drew ?_ | refine blk_alloc ?_ _)); exact BK197.out) hb); have n2_ := Aside0.mk (blk_below (g := gb198) (o := .cells #[.int .i64 0, .int .i64 0, .string (⟨#[]⟩ : ByteArray)] 24 (0, 0)) (by (with_reducible repeat (first | refine blk_drewN ?_ _ | refine blk_drew ?_ | refine blk_alloc ?_ _)); exact BK198.out) hb); have n3_ := Aside0.mk (below_step (by repeat (first | (with_reducible first | exact HB.out | apply below_alloc | apply pw_below_drewN | apply below_drew1 | refine below_set ?_ GE196.out | refine below_set ?_ GE197.out | refine below_set ?_ GE198.out) | exact HB.out)) hb); clear BK196; clear BK197; clear BK198; clear HB; have BK196 := n0_; have BK197 := n1_; have BK198 := n2_; have HB := n3_; clear n0_ n1_ n2_ n3_; (try clear hb); (try clear hb2); (try clear hk); (try clear hi); have hcz19_0 : w18.cell? ⟨gb196, 0, none⟩ = some (.int .i64 a0_0) := (blk_cell BK196.out 0).trans rfl; have hcz19_1 : w18.cell? ⟨gb196, 1, none⟩ = some (.int .i64 a0_1) := (blk_cell BK196.out 1).trans rfl; have hcz19_2 : w18.cell? ⟨gb196, 2, none⟩ = some (.string a0_2) := (blk_cell BK196.out 2).trans rfl; have hfz19_0 := blk_frozen BK196.out 0; have hfz19_1 := blk_frozen BK196.out 1; have hfz19_2 := blk_frozen BK196.out 2; have hcz20_0 : w18.cell? ⟨gb197, 0, none⟩ = some (.int .i64 a1_0) := (blk_cell BK197.out 0).trans rfl; have hcz20_1 : w18.cell? ⟨gb197, 1, none⟩ = some (.int .i64 a1_1) := (blk_cell BK197.out 1).trans rfl; have hcz20_2 : w18.cell? ⟨gb197, 2, none⟩ = some (.string a1_2) := (blk_cell BK197.out 2).trans rfl; have hfz20_0 := blk_frozen BK197.out 0; have hfz20_1 := blk_frozen BK197.out 1; have hfz20_2 := blk_frozen BK197.out 2) | ((with_reducible refine gate_callee (f := 37) rfl ?_); refine goesL_ (some 24) rfl rfl Try.func37 (by kernel_rfl) rfl #[.agg #[.int .i64 a0_0, .int .i64 a0_1, .string a0_2], .agg #[.int .i64 a1_0, .int .i64 a1_1, .string a1_2]] rfl (by (try simp only [List.map_toArray, List.map_cons, List.map_nil]); first | done | rfl | (simp only [List.length_drop, List.length_take]; rfl)) ?_; (with_reducible refine (corncribref02_Times.calls k a0_0 a0_1 a0_2 a1_0 a1_1 a1_2 t201 t202 t203 _ A8.out).mono ?_); rintro e w21 ⟨rfl, hb⟩; refine ⟨_, rfl, ?_⟩; have n0_ := Aside0.mk (blk_below (g := gb196) (o := .cells #[.int .i64 a0_0, .int .i64 a0_1, .string a0_2] 24 (0, 0)) (by (with_reducible repeat (first | refine blk_drewN ?_ _ | refine blk_drew ?_ | refine blk_alloc ?_ _)); exact BK196.out) hb); have n1_ := Aside0.mk (blk_below (g := gb197) (o := .cells #[.int .i64 a1_0, .int .i64 a1_1, .string a1_2] 24 (0, 0)) (by (with_reducible repeat (first | refine blk_drewN ?_ _ | refine blk_drew ?_ | refine blk_alloc ?_ _)); exact BK197.out) hb); have n2_ := Aside0.mk (blk_below (g := gb198) (o := .cells #[.int .i64 0, .int .i64 0, .string (⟨#[]⟩ : ByteArray)] 24 (0, 0)) (by (with_reducible repeat (first | refine blk_drewN ?_ _ | refine blk_drew ?_ | refine blk_alloc ?_ _)); exact BK198.out) hb); have n3_ := Aside0.mk (below_step (by repeat (first | (with_reducible first | exact HB.out | apply below_alloc | apply pw_below_drewN | apply below_drew1 | refine below_set ?_ GE196.out | refine below_set ?_ GE197.out | refine below_set ?_ GE198.out) | exact HB.out)) hb); clear BK196; clear BK197; clear BK198; clear HB; have BK196 := n0_; have BK197 := n1_; have BK198 := n2_; have HB := n3_; clear n0_ n1_ n2_ n3_; (try clear hb); (try clear hb2); (try clear hk); (try clear hi); have hcz22_0 : w21.cell? ⟨gb198, 0, none⟩ = some (.int .i64 0) := (blk_cell BK198.out 0).trans rfl; have hcz22_1 : w21.cell? ⟨gb198, 1, none⟩ = some (.int .i64 0) := (blk_cell BK198.out 1).trans rfl; have hcz22_2 : w21.cell? ⟨gb198, 2, none⟩ = some (.string (⟨#[]⟩ : ByteArray)) := (blk_cell BK198.out 2).trans rfl; have hfz22_0 := blk_frozen BK198.out 0; have hfz22_1 := blk_frozen BK198.out 1; have hfz22_2 := blk_frozen BK198.out 2))
    refine bodyPost_ret (results_ct rfl _ _ gb198 24 #[.int .i64 t201, .int .i64 t202, .string t203] (0, 0) _ rfl (by (with_reducible repeat (first | refine blk_drewN ?_ _ | refine blk_drew ?_ | refine blk_alloc ?_ _)); refine blk_put (cs := #[.int .i64 t201, .int .i64 t202, .string (⟨#[]⟩ : ByteArray)]) ?_ 2 _ rfl; (with_reducible repeat (first | refine blk_drewN ?_ _ | refine blk_drew ?_ | refine blk_alloc ?_ _)); refine blk_put (cs := #[.int .i64 t201, .int .i64 0, .string (⟨#[]⟩ : ByteArray)]) ?_ 1 _ rfl; (with_reducible repeat (first | refine blk_drewN ?_ _ | refine blk_drew ?_ | refine blk_alloc ?_ _)); refine blk_put (cs := #[.int .i64 0, .int .i64 0, .string (⟨#[]⟩ : ByteArray)]) ?_ 0 _ rfl; (with_reducible repeat (first | refine blk_drewN ?_ _ | refine blk_drew ?_ | refine blk_alloc ?_ _)); exact BK198.out) Try.underlying24 rfl (by kernel_rfl)) rfl ?_
    exact ⟨by first | rfl | (simp [errW_none, errW_some] <;> rfl) | (simp [*, errW_none, errW_some] <;> rfl), by repeat (first | (with_reducible first | exact HB.out | apply below_alloc | apply pw_below_drewN | apply below_drew1 | refine below_set ?_ GE196.out | refine below_set ?_ GE197.out | refine below_set ?_ GE198.out) | exact HB.out)⟩
   ·rw [if_neg c7] at H
    have c7b0 : (a0_1 == a1_0) = false := beq_eq_false_iff_ne.mpr c7
    have c7b1 : (a0_1 != a1_0) = true := bne_iff_ne.mpr c7
    simp only [Option.some.injEq, Prod.mk.injEq] at H
    obtain ⟨rfl, rfl, rfl, rfl⟩ := H
    go_enter Try.func22, Try.ntmps22
    go_wp2_with (first | ((with_reducible refine gate_dst (N := 2) rfl ?_); refine box_event ?hg (N := 2) ?hd (cs := #[.int .i64 a0_0, .int .i64 a0_1, .string a0_2]) (t := 24) ?hr ?_; (case hd => rfl); (case hg => rfl); (case hr => first | (go_simp; done) | (go_simp; rfl)); intro gb196 hg w23 hbox hb; have n0_ := Aside0.mk (below_step (by repeat (first | (with_reducible first | exact HB.out | apply below_alloc | apply pw_below_drewN | apply below_drew1) | exact HB.out)) hb); have n1_ := Aside0.mk (hbox); have n2_ := Aside0.mk ((by rw [hg]; exact (below_size (by repeat (first | (with_reducible first | exact HB.out | apply below_alloc | apply pw_below_drewN | apply below_drew1) | exact HB.out))) : w.heap.size ≤ gb196)); have n3_ := Aside0.mk ((by rw [hg]; exact (below_size (by repeat (first | (with_reducible first | exact HB.out | apply below_alloc | apply pw_below_drewN | apply below_drew1) | exact HB.out))) : w.heap.size ≤ gb196)); clear HB; have HB := n0_; have BK196 := n1_; have GW196 := n2_; have GE196 := n3_; clear n0_ n1_ n2_ n3_; clear hb hbox hg) | ((with_reducible refine gate_dst (N := 3) rfl ?_); refine box_event ?hg (N := 3) ?hd (cs := #[.int .i64 a1_0, .int .i64 a1_1, .string a1_2]) (t := 24) ?hr ?_; (case hd => rfl); (case hg => rfl); (case hr => first | (go_simp; done) | (go_simp; rfl)); intro gb197 hg w24 hbox hb; have n0_ := Aside0.mk (blk_below (g := gb196) (o := .cells #[.int .i64 a0_0, .int .i64 a0_1, .string a0_2] 24 (0, 0)) (by (with_reducible repeat (first | refine blk_drewN ?_ _ | refine blk_drew ?_ | refine blk_alloc ?_ _)); exact BK196.out) hb); have n1_ := Aside0.mk (below_step (by repeat (first | (with_reducible first | exact HB.out | apply below_alloc | apply pw_below_drewN | apply below_drew1 | refine below_set ?_ GE196.out) | exact HB.out)) hb); have n2_ := Aside0.mk (hbox); have n3_ := Aside0.mk ((by rw [hg]; exact (below_size (by repeat (first | (with_reducible first | exact HB.out | apply below_alloc | apply pw_below_drewN | apply below_drew1 | refine below_set ?_ GE196.out) | exact HB.out))) : w.heap.size ≤ gb197)); have n4_ := Aside0.mk ((by rw [hg]; exact (below_size (by repeat (first | (with_reducible first | exact HB.out | apply below_alloc | apply pw_below_drewN | apply below_drew1 | refine below_set ?_ GE196.out) | exact HB.out))) : w.heap.size ≤ gb197)); have n5_ := Aside0.mk ((by rw [hg]; exact Nat.ne_of_lt (blk_lt (g := gb196) (o := .cells #[.int .i64 a0_0, .int .i64 a0_1, .string a0_2] 24 (0, 0)) (by (with_reducible repeat (first | refine blk_drewN ?_ _ | refine blk_drew ?_ | refine blk_alloc ?_ _)); exact BK196.out)) : gb196 ≠ gb197)); have n6_ := Aside0.mk ((by rw [hg]; exact Nat.ne_of_gt (blk_lt (g := gb196) (o := .cells #[.int .i64 a0_0, .int .i64 a0_1, .string a0_2] 24 (0, 0)) (by (with_reducible repeat (first | refine blk_drewN ?_ _ | refine blk_drew ?_ | refine blk_alloc ?_ _)); exact BK196.out)) : gb197 ≠ gb196)); clear BK196; clear HB; have BK196 := n0_; have HB := n1_; have BK197 := n2_; have GW197 := n3_; have GE197 := n4_; have NB196_197 := n5_; have NB197_196 := n6_; clear n0_ n1_ n2_ n3_ n4_ n5_ n6_; clear hb hbox hg) | ((with_reducible refine gate_dst (N := 4) rfl ?_); refine box_event ?hg (N := 4) ?hd (cs := #[.int .i64 0, .int .i64 0, .string (⟨#[]⟩ : ByteArray)]) (t := 24) ?hr ?_; (case hd => rfl); (case hg => rfl); (case hr => first | (go_simp; done) | (go_simp; rfl)); intro gb198 hg w25 hbox hb; have n0_ := Aside0.mk (blk_below (g := gb196) (o := .cells #[.int .i64 a0_0, .int .i64 a0_1, .string a0_2] 24 (0, 0)) (by (with_reducible repeat (first | refine blk_drewN ?_ _ | refine blk_drew ?_ | refine blk_alloc ?_ _)); exact BK196.out) hb); have n1_ := Aside0.mk (blk_below (g := gb197) (o := .cells #[.int .i64 a1_0, .int .i64 a1_1, .string a1_2] 24 (0, 0)) (by (with_reducible repeat (first | refine blk_drewN ?_ _ | refine blk_drew ?_ | refine blk_alloc ?_ _)); exact BK197.out) hb); have n2_ := Aside0.mk (below_step (by repeat (first | (with_reducible first | exact HB.out | apply below_alloc | apply pw_below_drewN | apply below_drew1 | refine below_set ?_ GE196.out | refine below_set ?_ GE197.out) | exact HB.out)) hb); have n3_ := Aside0.mk (hbox); have n4_ := Aside0.mk ((by rw [hg]; exact (below_size (by repeat (first | (with_reducible first | exact HB.out | apply below_alloc | apply pw_below_drewN | apply below_drew1 | refine below_set ?_ GE196.out | refine below_set ?_ GE197.out) | exact HB.out))) : w.heap.size ≤ gb198)); have n5_ := Aside0.mk ((by rw [hg]; exact (below_size (by repeat (first | (with_reducible first | exact HB.out | apply below_alloc | apply pw_below_drewN | apply below_drew1 | refine below_set ?_ GE196.out | refine below_set ?_ GE197.out) | exact HB.out))) : w.heap.size ≤ gb198)); have n6_ := Aside0.mk ((by rw [hg]; exact Nat.ne_of_lt (blk_lt (g := gb196) (o := .cells #[.int .i64 a0_0, .int .i64 a0_1, .string a0_2] 24 (0, 0)) (by (with_reducible repeat (first | refine blk_drewN ?_ _ | refine blk_drew ?_ | refine blk_alloc ?_ _)); exact BK196.out)) : gb196 ≠ gb198)); have n7_ := Aside0.mk ((by rw [hg]; exact Nat.ne_of_gt (blk_lt (g := gb196) (o := .cells #[.int .i64 a0_0, .int .i64 a0_1, .string a0_2] 24 (0, 0)) (by (with_reducible repeat (first | refine blk_drewN ?_ _ | refine blk_drew ?_ | refine blk_alloc ?_ _)); exact BK196.out)) : gb198 ≠ gb196)); have n8_ := Aside0.mk ((by rw [hg]; exact Nat.ne_of_lt (blk_lt (g := gb197) (o := .cells #[.int .i64 a1_0, .int .i64 a1_1, .string a1_2] 24 (0, 0)) (by (with_reducible repeat (first | refine blk_drewN ?_ _ | refine blk_drew ?_ | refine blk_alloc ?_ _)); exact BK197.out)) : gb197 ≠ gb198)); have n9_ := Aside0.mk ((by rw [hg]; exact Nat.ne_of_gt (blk_lt (g := gb197) (o := .cells #[.int .i64 a1_0, .int .i64 a1_1, .string a1_2] 24 (0, 0)) (by (with_reducible repeat (first | refine blk_drewN ?_ _ | refine blk_drew ?_ | refine blk_alloc ?_ _)); exact BK197.out)) : gb198 ≠ gb197)); clear BK196; clear BK197; clear HB; have BK196 := n0_; have BK197 := n1_; have HB := n2_; have BK198 := n3_; have GW198 := n4_; have GE198 := n5_; have NB196_198 := n6_; have NB198_196 := n7_; have NB197_198 := n8_; have NB198_197 := n9_; clear n0_ n1_ n2_ n3_ n4_ n5_ n6_ n7_ n8_ n9_; clear hb hbox hg; have hnb26 := NB196_197.out; have hnc26 := NB197_196.out; have hnb27 := NB196_198.out; have hnc27 := NB198_196.out; have hcz28_0 : w25.cell? ⟨gb196, 0, none⟩ = some (.int .i64 a0_0) := (blk_cell BK196.out 0).trans rfl; have hcz28_1 : w25.cell? ⟨gb196, 1, none⟩ = some (.int .i64 a0_1) := (blk_cell BK196.out 1).trans rfl; have hcz28_2 : w25.cell? ⟨gb196, 2, none⟩ = some (.string a0_2) := (blk_cell BK196.out 2).trans rfl; have hfz28_0 := blk_frozen BK196.out 0; have hfz28_1 := blk_frozen BK196.out 1; have hfz28_2 := blk_frozen BK196.out 2) | ((with_reducible refine gate_callee (f := 19) rfl ?_); refine goesL_ (some 7) rfl rfl Try.func19 (by kernel_rfl) rfl #[.agg #[.int .i64 a0_0, .int .i64 a0_1, .string a0_2]] rfl (by (try simp only [List.map_toArray, List.map_cons, List.map_nil]); first | done | rfl | (simp only [List.length_drop, List.length_take]; rfl)) ?_; (with_reducible refine (corncribref02_Check.calls a0_0 a0_1 a0_2 t199 _ A3.out).mono ?_); rintro e w29 ⟨rfl, hb⟩; refine ⟨_, rfl, ?_⟩; have n0_ := Aside0.mk (blk_below (g := gb196) (o := .cells #[.int .i64 a0_0, .int .i64 a0_1, .string a0_2] 24 (0, 0)) (by (with_reducible repeat (first | refine blk_drewN ?_ _ | refine blk_drew ?_ | refine blk_alloc ?_ _)); exact BK196.out) hb); have n1_ := Aside0.mk (blk_below (g := gb197) (o := .cells #[.int .i64 a1_0, .int .i64 a1_1, .string a1_2] 24 (0, 0)) (by (with_reducible repeat (first | refine blk_drewN ?_ _ | refine blk_drew ?_ | refine blk_alloc ?_ _)); exact BK197.out) hb); have n2_ := Aside0.mk (blk_below (g := gb198) (o := .cells #[.int .i64 0, .int .i64 0, .string (⟨#[]⟩ : ByteArray)] 24 (0, 0)) (by (with_reducible repeat (first | refine blk_drewN ?_ _ | refine blk_drew ?_ | refine blk_alloc ?_ _)); exact BK198.out) hb); have n3_ := Aside0.mk (below_step (by repeat (first | (with_reducible first | exact HB.out | apply below_alloc | apply pw_below_drewN | apply below_drew1 | refine below_set ?_ GE196.out | refine below_set ?_ GE197.out | refine below_set ?_ GE198.out) | exact HB.out)) hb); clear BK196; clear BK197; clear BK198; clear HB; have BK196 := n0_; have BK197 := n1_; have BK198 := n2_; have HB := n3_; clear n0_ n1_ n2_ n3_; (try clear hb); (try clear hb2); (try clear hk); (try clear hi); have hnb30 := NB197_198.out; have hnc30 := NB198_197.out; have hcz31_0 : w29.cell? ⟨gb197, 0, none⟩ = some (.int .i64 a1_0) := (blk_cell BK197.out 0).trans rfl; have hcz31_1 : w29.cell? ⟨gb197, 1, none⟩ = some (.int .i64 a1_1) := (blk_cell BK197.out 1).trans rfl; have hcz31_2 : w29.cell? ⟨gb197, 2, none⟩ = some (.string a1_2) := (blk_cell BK197.out 2).trans rfl; have hfz31_0 := blk_frozen BK197.out 0; have hfz31_1 := blk_frozen BK197.out 1; have hfz31_2 := blk_frozen BK197.out 2) | (go_at_call 19; (with_reducible refine (corncribref02_Check.calls a1_0 a1_1 a1_2 t200 _ A5.out).mono ?_); rintro e w32 ⟨rfl, hb⟩; have n0_ := Aside0.mk (blk_below (g := gb196) (o := .cells #[.int .i64 a0_0, .int .i64 a0_1, .string a0_2] 24 (0, 0)) (by (with_reducible repeat (first | refine blk_drewN ?_ _ | refine blk_drew ?_ | refine blk_alloc ?_ _)); exact BK196.out) hb); have n1_ := Aside0.mk (blk_below (g := gb197) (o := .cells #[.int .i64 a1_0, .int .i64 a1_1, .string a1_2] 24 (0, 0)) (by (with_reducible repeat (first | refine blk_drewN ?_ _ | refine blk_drew ?_ | refine blk_alloc ?_ _)); exact BK197.out) hb); have n2_ := Aside0.mk (blk_below (g := gb198) (o := .cells #[.int .i64 0, .int .i64 0, .string (⟨#[]⟩ : ByteArray)] 24 (0, 0)) (by (with_reducible repeat (first | refine blk_drewN ?_ _ | refine blk_drew ?_ | refine blk_alloc ?_ _)); exact BK198.out) hb); have n3_ := Aside0.mk (below_step (by repeat (first | (with_reducible first | exact HB.out | apply below_alloc | apply pw_below_drewN | apply below_drew1 | refine below_set ?_ GE196.out | refine below_set ?_ GE197.out | refine below_set ?_ GE198.out) | exact HB.out)) hb); clear BK196; clear BK197; clear BK198; clear HB; have BK196 := n0_; have BK197 := n1_; have BK198 := n2_; have HB := n3_; clear n0_ n1_ n2_ n3_; (try clear hb); (try clear hb2); (try clear hk); (try clear hi); have hcz33_0 : w32.cell? ⟨gb196, 0, none⟩ = some (.int .i64 a0_0) := (blk_cell BK196.out 0).trans rfl; have hcz33_1 : w32.cell? ⟨gb196, 1, none⟩ = some (.int .i64 a0_1) := (blk_cell BK196.out 1).trans rfl; have hcz33_2 : w32.cell? ⟨gb196, 2, none⟩ = some (.string a0_2) := (blk_cell BK196.out 2).trans rfl; have hfz33_0 := blk_frozen BK196.out 0; have hfz33_1 := blk_frozen BK196.out 1; have hfz33_2 := blk_frozen BK196.out 2; have hcz34_0 : w32.cell? ⟨gb197, 0, none⟩ = some (.int .i64 a1_0) := (blk_cell BK197.out 0).trans rfl; have hcz34_1 : w32.cell? ⟨gb197, 1, none⟩ = some (.int .i64 a1_1) := (blk_cell BK197.out 1).trans rfl; have hcz34_2 : w32.cell? ⟨gb197, 2, none⟩ = some (.string a1_2) := (blk_cell BK197.out 2).trans rfl; have hfz34_0 := blk_frozen BK197.out 0; have hfz34_1 := blk_frozen BK197.out 1; have hfz34_2 := blk_frozen BK197.out 2; have hcz35_0 : w32.cell? ⟨gb198, 0, none⟩ = some (.int .i64 0) := (blk_cell BK198.out 0).trans rfl; have hcz35_1 : w32.cell? ⟨gb198, 1, none⟩ = some (.int .i64 0) := (blk_cell BK198.out 1).trans rfl; have hcz35_2 : w32.cell? ⟨gb198, 2, none⟩ = some (.string (⟨#[]⟩ : ByteArray)) := (blk_cell BK198.out 2).trans rfl; have hfz35_0 := blk_frozen BK198.out 0; have hfz35_1 := blk_frozen BK198.out 1; have hfz35_2 := blk_frozen BK198.out 2))
    refine bodyPost_ret (results_ct rfl _ _ gb198 24 #[.int .i64 0, .int .i64 0, .string (⟨#[]⟩ : ByteArray)] (0, 0) _ rfl (by (with_reducible repeat (first | refine blk_drewN ?_ _ | refine blk_drew ?_ | refine blk_alloc ?_ _)); refine blk_put (cs := #[.int .i64 0, .int .i64 0, .string (⟨#[]⟩ : ByteArray)]) ?_ 2 _ rfl; (with_reducible repeat (first | refine blk_drewN ?_ _ | refine blk_drew ?_ | refine blk_alloc ?_ _)); refine blk_put (cs := #[.int .i64 0, .int .i64 0, .string (⟨#[]⟩ : ByteArray)]) ?_ 1 _ rfl; (with_reducible repeat (first | refine blk_drewN ?_ _ | refine blk_drew ?_ | refine blk_alloc ?_ _)); refine blk_put (cs := #[.int .i64 0, .int .i64 0, .string (⟨#[]⟩ : ByteArray)]) ?_ 0 _ rfl; (with_reducible repeat (first | refine blk_drewN ?_ _ | refine blk_drew ?_ | refine blk_alloc ?_ _)); exact BK198.out) Try.underlying24 rfl (by kernel_rfl)) rfl ?_
    exact ⟨by first | rfl | (simp [errW_none, errW_some] <;> rfl) | (simp [*, errW_none, errW_some] <;> rfl), by repeat (first | (with_reducible first | exact HB.out | apply below_alloc | apply pw_below_drewN | apply below_drew1 | refine below_set ?_ GE196.out | refine below_set ?_ GE197.out | refine below_set ?_ GE198.out) | exact HB.out)⟩
  ·rw [if_neg c6] at H
   have c6b0 : (t200 == 0) = false := beq_eq_false_iff_ne.mpr c6
   have c6b1 : (t200 != 0) = true := bne_iff_ne.mpr c6
   simp only [Option.some.injEq, Prod.mk.injEq] at H
   obtain ⟨rfl, rfl, rfl, rfl⟩ := H
   go_enter Try.func22, Try.ntmps22
   go_wp2_with (first | ((with_reducible refine gate_dst (N := 2) rfl ?_); refine box_event ?hg (N := 2) ?hd (cs := #[.int .i64 a0_0, .int .i64 a0_1, .string a0_2]) (t := 24) ?hr ?_; (case hd => rfl); (case hg => rfl); (case hr => first | (go_simp; done) | (go_simp; rfl)); intro gb196 hg w36 hbox hb; have n0_ := Aside0.mk (below_step (by repeat (first | (with_reducible first | exact HB.out | apply below_alloc | apply pw_below_drewN | apply below_drew1) | exact HB.out)) hb); have n1_ := Aside0.mk (hbox); have n2_ := Aside0.mk ((by rw [hg]; exact (below_size (by repeat (first | (with_reducible first | exact HB.out | apply below_alloc | apply pw_below_drewN | apply below_drew1) | exact HB.out))) : w.heap.size ≤ gb196)); have n3_ := Aside0.mk ((by rw [hg]; exact (below_size (by repeat (first | (with_reducible first | exact HB.out | apply below_alloc | apply pw_below_drewN | apply below_drew1) | exact HB.out))) : w.heap.size ≤ gb196)); clear HB; have HB := n0_; have BK196 := n1_; have GW196 := n2_; have GE196 := n3_; clear n0_ n1_ n2_ n3_; clear hb hbox hg) | ((with_reducible refine gate_dst (N := 3) rfl ?_); refine box_event ?hg (N := 3) ?hd (cs := #[.int .i64 a1_0, .int .i64 a1_1, .string a1_2]) (t := 24) ?hr ?_; (case hd => rfl); (case hg => rfl); (case hr => first | (go_simp; done) | (go_simp; rfl)); intro gb197 hg w37 hbox hb; have n0_ := Aside0.mk (blk_below (g := gb196) (o := .cells #[.int .i64 a0_0, .int .i64 a0_1, .string a0_2] 24 (0, 0)) (by (with_reducible repeat (first | refine blk_drewN ?_ _ | refine blk_drew ?_ | refine blk_alloc ?_ _)); exact BK196.out) hb); have n1_ := Aside0.mk (below_step (by repeat (first | (with_reducible first | exact HB.out | apply below_alloc | apply pw_below_drewN | apply below_drew1 | refine below_set ?_ GE196.out) | exact HB.out)) hb); have n2_ := Aside0.mk (hbox); have n3_ := Aside0.mk ((by rw [hg]; exact (below_size (by repeat (first | (with_reducible first | exact HB.out | apply below_alloc | apply pw_below_drewN | apply below_drew1 | refine below_set ?_ GE196.out) | exact HB.out))) : w.heap.size ≤ gb197)); have n4_ := Aside0.mk ((by rw [hg]; exact (below_size (by repeat (first | (with_reducible first | exact HB.out | apply below_alloc | apply pw_below_drewN | apply below_drew1 | refine below_set ?_ GE196.out) | exact HB.out))) : w.heap.size ≤ gb197)); have n5_ := Aside0.mk ((by rw [hg]; exact Nat.ne_of_lt (blk_lt (g := gb196) (o := .cells #[.int .i64 a0_0, .int .i64 a0_1, .string a0_2] 24 (0, 0)) (by (with_reducible repeat (first | refine blk_drewN ?_ _ | refine blk_drew ?_ | refine blk_alloc ?_ _)); exact BK196.out)) : gb196 ≠ gb197)); have n6_ := Aside0.mk ((by rw [hg]; exact Nat.ne_of_gt (blk_lt (g := gb196) (o := .cells #[.int .i64 a0_0, .int .i64 a0_1, .string a0_2] 24 (0, 0)) (by (with_reducible repeat (first | refine blk_drewN ?_ _ | refine blk_drew ?_ | refine blk_alloc ?_ _)); exact BK196.out)) : gb197 ≠ gb196)); clear BK196; clear HB; have BK196 := n0_; have HB := n1_; have BK197 := n2_; have GW197 := n3_; have GE197 := n4_; have NB196_197 := n5_; have NB197_196 := n6_; clear n0_ n1_ n2_ n3_ n4_ n5_ n6_; clear hb hbox hg) | ((with_reducible refine gate_dst (N := 4) rfl ?_); refine box_event ?hg (N := 4) ?hd (cs := #[.int .i64 0, .int .i64 0, .string (⟨#[]⟩ : ByteArray)]) (t := 24) ?hr ?_; (case hd => rfl); (case hg => rfl); (case hr => first | (go_simp; done) | (go_simp; rfl)); intro gb198 hg w38 hbox hb; have n0_ := Aside0.mk (blk_below (g := gb196) (o := .cells #[.int .i64 a0_0, .int .i64 a0_1, .string a0_2] 24 (0, 0)) (by (with_reducible repeat (first | refine blk_drewN ?_ _ | refine blk_drew ?_ | refine blk_alloc ?_ _)); exact BK196.out) hb); have n1_ := Aside0.mk (blk_below (g := gb197) (o := .cells #[.int .i64 a1_0, .int .i64 a1_1, .string a1_2] 24 (0, 0)) (by (with_reducible repeat (first | refine blk_drewN ?_ _ | refine blk_drew ?_ | refine blk_alloc ?_ _)); exact BK197.out) hb); have n2_ := Aside0.mk (below_step (by repeat (first | (with_reducible first | exact HB.out | apply below_alloc | apply pw_below_drewN | apply below_drew1 | refine below_set ?_ GE196.out | refine below_set ?_ GE197.out) | exact HB.out)) hb); have n3_ := Aside0.mk (hbox); have n4_ := Aside0.mk ((by rw [hg]; exact (below_size (by repeat (first | (with_reducible first | exact HB.out | apply below_alloc | apply pw_below_drewN | apply below_drew1 | refine below_set ?_ GE196.out | refine below_set ?_ GE197.out) | exact HB.out))) : w.heap.size ≤ gb198)); have n5_ := Aside0.mk ((by rw [hg]; exact (below_size (by repeat (first | (with_reducible first | exact HB.out | apply below_alloc | apply pw_below_drewN | apply below_drew1 | refine below_set ?_ GE196.out | refine below_set ?_ GE197.out) | exact HB.out))) : w.heap.size ≤ gb198)); have n6_ := Aside0.mk ((by rw [hg]; exact Nat.ne_of_lt (blk_lt (g := gb196) (o := .cells #[.int .i64 a0_0, .int .i64 a0_1, .string a0_2] 24 (0, 0)) (by (with_reducible repeat (first | refine blk_drewN ?_ _ | refine blk_drew ?_ | refine blk_alloc ?_ _)); exact BK196.out)) : gb196 ≠ gb198)); have n7_ := Aside0.mk ((by rw [hg]; exact Nat.ne_of_gt (blk_lt (g := gb196) (o := .cells #[.int .i64 a0_0, .int .i64 a0_1, .string a0_2] 24 (0, 0)) (by (with_reducible repeat (first | refine blk_drewN ?_ _ | refine blk_drew ?_ | refine blk_alloc ?_ _)); exact BK196.out)) : gb198 ≠ gb196)); have n8_ := Aside0.mk ((by rw [hg]; exact Nat.ne_of_lt (blk_lt (g := gb197) (o := .cells #[.int .i64 a1_0, .int .i64 a1_1, .string a1_2] 24 (0, 0)) (by (with_reducible repeat (first | refine blk_drewN ?_ _ | refine blk_drew ?_ | refine blk_alloc ?_ _)); exact BK197.out)) : gb197 ≠ gb198)); have n9_ := Aside0.mk ((by rw [hg]; exact Nat.ne_of_gt (blk_lt (g := gb197) (o := .cells #[.int .i64 a1_0, .int .i64 a1_1, .string a1_2] 24 (0, 0)) (by (with_reducible repeat (first | refine blk_drewN ?_ _ | refine blk_drew ?_ | refine blk_alloc ?_ _)); exact BK197.out)) : gb198 ≠ gb197)); clear BK196; clear BK197; clear HB; have BK196 := n0_; have BK197 := n1_; have HB := n2_; have BK198 := n3_; have GW198 := n4_; have GE198 := n5_; have NB196_198 := n6_; have NB198_196 := n7_; have NB197_198 := n8_; have NB198_197 := n9_; clear n0_ n1_ n2_ n3_ n4_ n5_ n6_ n7_ n8_ n9_; clear hb hbox hg; have hnb39 := NB196_197.out; have hnc39 := NB197_196.out; have hnb40 := NB196_198.out; have hnc40 := NB198_196.out; have hcz41_0 : w38.cell? ⟨gb196, 0, none⟩ = some (.int .i64 a0_0) := (blk_cell BK196.out 0).trans rfl; have hcz41_1 : w38.cell? ⟨gb196, 1, none⟩ = some (.int .i64 a0_1) := (blk_cell BK196.out 1).trans rfl; have hcz41_2 : w38.cell? ⟨gb196, 2, none⟩ = some (.string a0_2) := (blk_cell BK196.out 2).trans rfl; have hfz41_0 := blk_frozen BK196.out 0; have hfz41_1 := blk_frozen BK196.out 1; have hfz41_2 := blk_frozen BK196.out 2) | ((with_reducible refine gate_callee (f := 19) rfl ?_); refine goesL_ (some 7) rfl rfl Try.func19 (by kernel_rfl) rfl #[.agg #[.int .i64 a0_0, .int .i64 a0_1, .string a0_2]] rfl (by (try simp only [List.map_toArray, List.map_cons, List.map_nil]); first | done | rfl | (simp only [List.length_drop, List.length_take]; rfl)) ?_; (with_reducible refine (corncribref02_Check.calls a0_0 a0_1 a0_2 t199 _ A3.out).mono ?_); rintro e w42 ⟨rfl, hb⟩; refine ⟨_, rfl, ?_⟩; have n0_ := Aside0.mk (blk_below (g := gb196) (o := .cells #[.int .i64 a0_0, .int .i64 a0_1, .string a0_2] 24 (0, 0)) (by (with_reducible repeat (first | refine blk_drewN ?_ _ | refine blk_drew ?_ | refine blk_alloc ?_ _)); exact BK196.out) hb); have n1_ := Aside0.mk (blk_below (g := gb197) (o := .cells #[.int .i64 a1_0, .int .i64 a1_1, .string a1_2] 24 (0, 0)) (by (with_reducible repeat (first | refine blk_drewN ?_ _ | refine blk_drew ?_ | refine blk_alloc ?_ _)); exact BK197.out) hb); have n2_ := Aside0.mk (blk_below (g := gb198) (o := .cells #[.int .i64 0, .int .i64 0, .string (⟨#[]⟩ : ByteArray)] 24 (0, 0)) (by (with_reducible repeat (first | refine blk_drewN ?_ _ | refine blk_drew ?_ | refine blk_alloc ?_ _)); exact BK198.out) hb); have n3_ := Aside0.mk (below_step (by repeat (first | (with_reducible first | exact HB.out | apply below_alloc | apply pw_below_drewN | apply below_drew1 | refine below_set ?_ GE196.out | refine below_set ?_ GE197.out | refine below_set ?_ GE198.out) | exact HB.out)) hb); clear BK196; clear BK197; clear BK198; clear HB; have BK196 := n0_; have BK197 := n1_; have BK198 := n2_; have HB := n3_; clear n0_ n1_ n2_ n3_; (try clear hb); (try clear hb2); (try clear hk); (try clear hi); have hnb43 := NB197_198.out; have hnc43 := NB198_197.out; have hcz44_0 : w42.cell? ⟨gb197, 0, none⟩ = some (.int .i64 a1_0) := (blk_cell BK197.out 0).trans rfl; have hcz44_1 : w42.cell? ⟨gb197, 1, none⟩ = some (.int .i64 a1_1) := (blk_cell BK197.out 1).trans rfl; have hcz44_2 : w42.cell? ⟨gb197, 2, none⟩ = some (.string a1_2) := (blk_cell BK197.out 2).trans rfl; have hfz44_0 := blk_frozen BK197.out 0; have hfz44_1 := blk_frozen BK197.out 1; have hfz44_2 := blk_frozen BK197.out 2) | (go_at_call 19; (with_reducible refine (corncribref02_Check.calls a1_0 a1_1 a1_2 t200 _ A5.out).mono ?_); rintro e w45 ⟨rfl, hb⟩; have n0_ := Aside0.mk (blk_below (g := gb196) (o := .cells #[.int .i64 a0_0, .int .i64 a0_1, .string a0_2] 24 (0, 0)) (by (with_reducible repeat (first | refine blk_drewN ?_ _ | refine blk_drew ?_ | refine blk_alloc ?_ _)); exact BK196.out) hb); have n1_ := Aside0.mk (blk_below (g := gb197) (o := .cells #[.int .i64 a1_0, .int .i64 a1_1, .string a1_2] 24 (0, 0)) (by (with_reducible repeat (first | refine blk_drewN ?_ _ | refine blk_drew ?_ | refine blk_alloc ?_ _)); exact BK197.out) hb); have n2_ := Aside0.mk (blk_below (g := gb198) (o := .cells #[.int .i64 0, .int .i64 0, .string (⟨#[]⟩ : ByteArray)] 24 (0, 0)) (by (with_reducible repeat (first | refine blk_drewN ?_ _ | refine blk_drew ?_ | refine blk_alloc ?_ _)); exact BK198.out) hb); have n3_ := Aside0.mk (below_step (by repeat (first | (with_reducible first | exact HB.out | apply below_alloc | apply pw_below_drewN | apply below_drew1 | refine below_set ?_ GE196.out | refine below_set ?_ GE197.out | refine below_set ?_ GE198.out) | exact HB.out)) hb); clear BK196; clear BK197; clear BK198; clear HB; have BK196 := n0_; have BK197 := n1_; have BK198 := n2_; have HB := n3_; clear n0_ n1_ n2_ n3_; (try clear hb); (try clear hb2); (try clear hk); (try clear hi); have hcz46_0 : w45.cell? ⟨gb198, 0, none⟩ = some (.int .i64 0) := (blk_cell BK198.out 0).trans rfl; have hcz46_1 : w45.cell? ⟨gb198, 1, none⟩ = some (.int .i64 0) := (blk_cell BK198.out 1).trans rfl; have hcz46_2 : w45.cell? ⟨gb198, 2, none⟩ = some (.string (⟨#[]⟩ : ByteArray)) := (blk_cell BK198.out 2).trans rfl; have hfz46_0 := blk_frozen BK198.out 0; have hfz46_1 := blk_frozen BK198.out 1; have hfz46_2 := blk_frozen BK198.out 2))
   refine bodyPost_ret (results_ct rfl _ _ gb198 24 #[.int .i64 0, .int .i64 0, .string (⟨#[]⟩ : ByteArray)] (0, 0) _ rfl (by (with_reducible repeat (first | refine blk_drewN ?_ _ | refine blk_drew ?_ | refine blk_alloc ?_ _)); refine blk_put (cs := #[.int .i64 0, .int .i64 0, .string (⟨#[]⟩ : ByteArray)]) ?_ 2 _ rfl; (with_reducible repeat (first | refine blk_drewN ?_ _ | refine blk_drew ?_ | refine blk_alloc ?_ _)); refine blk_put (cs := #[.int .i64 0, .int .i64 0, .string (⟨#[]⟩ : ByteArray)]) ?_ 1 _ rfl; (with_reducible repeat (first | refine blk_drewN ?_ _ | refine blk_drew ?_ | refine blk_alloc ?_ _)); refine blk_put (cs := #[.int .i64 0, .int .i64 0, .string (⟨#[]⟩ : ByteArray)]) ?_ 0 _ rfl; (with_reducible repeat (first | refine blk_drewN ?_ _ | refine blk_drew ?_ | refine blk_alloc ?_ _)); exact BK198.out) Try.underlying24 rfl (by kernel_rfl)) rfl ?_
   exact ⟨by first | rfl | (simp [errW_none, errW_some] <;> rfl) | (simp [*, errW_none, errW_some] <;> rfl), by repeat (first | (with_reducible first | exact HB.out | apply below_alloc | apply pw_below_drewN | apply below_drew1 | refine below_set ?_ GE196.out | refine below_set ?_ GE197.out | refine below_set ?_ GE198.out) | exact HB.out)⟩
 ·rw [if_neg c4] at H
  have c4b0 : (t199 == 0) = false := beq_eq_false_iff_ne.mpr c4
  have c4b1 : (t199 != 0) = true := bne_iff_ne.mpr c4
  simp only [Option.some.injEq, Prod.mk.injEq] at H
  obtain ⟨rfl, rfl, rfl, rfl⟩ := H
  go_enter Try.func22, Try.ntmps22
  go_wp2_with (first | ((with_reducible refine gate_dst (N := 2) rfl ?_); refine box_event ?hg (N := 2) ?hd (cs := #[.int .i64 a0_0, .int .i64 a0_1, .string a0_2]) (t := 24) ?hr ?_; (case hd => rfl); (case hg => rfl); (case hr => first | (go_simp; done) | (go_simp; rfl)); intro gb196 hg w47 hbox hb; have n0_ := Aside0.mk (below_step (by repeat (first | (with_reducible first | exact HB.out | apply below_alloc | apply pw_below_drewN | apply below_drew1) | exact HB.out)) hb); have n1_ := Aside0.mk (hbox); have n2_ := Aside0.mk ((by rw [hg]; exact (below_size (by repeat (first | (with_reducible first | exact HB.out | apply below_alloc | apply pw_below_drewN | apply below_drew1) | exact HB.out))) : w.heap.size ≤ gb196)); have n3_ := Aside0.mk ((by rw [hg]; exact (below_size (by repeat (first | (with_reducible first | exact HB.out | apply below_alloc | apply pw_below_drewN | apply below_drew1) | exact HB.out))) : w.heap.size ≤ gb196)); clear HB; have HB := n0_; have BK196 := n1_; have GW196 := n2_; have GE196 := n3_; clear n0_ n1_ n2_ n3_; clear hb hbox hg) | ((with_reducible refine gate_dst (N := 3) rfl ?_); refine box_event ?hg (N := 3) ?hd (cs := #[.int .i64 a1_0, .int .i64 a1_1, .string a1_2]) (t := 24) ?hr ?_; (case hd => rfl); (case hg => rfl); (case hr => first | (go_simp; done) | (go_simp; rfl)); intro gb197 hg w48 hbox hb; have n0_ := Aside0.mk (blk_below (g := gb196) (o := .cells #[.int .i64 a0_0, .int .i64 a0_1, .string a0_2] 24 (0, 0)) (by (with_reducible repeat (first | refine blk_drewN ?_ _ | refine blk_drew ?_ | refine blk_alloc ?_ _)); exact BK196.out) hb); have n1_ := Aside0.mk (below_step (by repeat (first | (with_reducible first | exact HB.out | apply below_alloc | apply pw_below_drewN | apply below_drew1 | refine below_set ?_ GE196.out) | exact HB.out)) hb); have n2_ := Aside0.mk (hbox); have n3_ := Aside0.mk ((by rw [hg]; exact (below_size (by repeat (first | (with_reducible first | exact HB.out | apply below_alloc | apply pw_below_drewN | apply below_drew1 | refine below_set ?_ GE196.out) | exact HB.out))) : w.heap.size ≤ gb197)); have n4_ := Aside0.mk ((by rw [hg]; exact (below_size (by repeat (first | (with_reducible first | exact HB.out | apply below_alloc | apply pw_below_drewN | apply below_drew1 | refine below_set ?_ GE196.out) | exact HB.out))) : w.heap.size ≤ gb197)); have n5_ := Aside0.mk ((by rw [hg]; exact Nat.ne_of_lt (blk_lt (g := gb196) (o := .cells #[.int .i64 a0_0, .int .i64 a0_1, .string a0_2] 24 (0, 0)) (by (with_reducible repeat (first | refine blk_drewN ?_ _ | refine blk_drew ?_ | refine blk_alloc ?_ _)); exact BK196.out)) : gb196 ≠ gb197)); have n6_ := Aside0.mk ((by rw [hg]; exact Nat.ne_of_gt (blk_lt (g := gb196) (o := .cells #[.int .i64 a0_0, .int .i64 a0_1, .string a0_2] 24 (0, 0)) (by (with_reducible repeat (first | refine blk_drewN ?_ _ | refine blk_drew ?_ | refine blk_alloc ?_ _)); exact BK196.out)) : gb197 ≠ gb196)); clear BK196; clear HB; have BK196 := n0_; have HB := n1_; have BK197 := n2_; have GW197 := n3_; have GE197 := n4_; have NB196_197 := n5_; have NB197_196 := n6_; clear n0_ n1_ n2_ n3_ n4_ n5_ n6_; clear hb hbox hg) | ((with_reducible refine gate_dst (N := 4) rfl ?_); refine box_event ?hg (N := 4) ?hd (cs := #[.int .i64 0, .int .i64 0, .string (⟨#[]⟩ : ByteArray)]) (t := 24) ?hr ?_; (case hd => rfl); (case hg => rfl); (case hr => first | (go_simp; done) | (go_simp; rfl)); intro gb198 hg w49 hbox hb; have n0_ := Aside0.mk (blk_below (g := gb196) (o := .cells #[.int .i64 a0_0, .int .i64 a0_1, .string a0_2] 24 (0, 0)) (by (with_reducible repeat (first | refine blk_drewN ?_ _ | refine blk_drew ?_ | refine blk_alloc ?_ _)); exact BK196.out) hb); have n1_ := Aside0.mk (blk_below (g := gb197) (o := .cells #[.int .i64 a1_0, .int .i64 a1_1, .string a1_2] 24 (0, 0)) (by (with_reducible repeat (first | refine blk_drewN ?_ _ | refine blk_drew ?_ | refine blk_alloc ?_ _)); exact BK197.out) hb); have n2_ := Aside0.mk (below_step (by repeat (first | (with_reducible first | exact HB.out | apply below_alloc | apply pw_below_drewN | apply below_drew1 | refine below_set ?_ GE196.out | refine below_set ?_ GE197.out) | exact HB.out)) hb); have n3_ := Aside0.mk (hbox); have n4_ := Aside0.mk ((by rw [hg]; exact (below_size (by repeat (first | (with_reducible first | exact HB.out | apply below_alloc | apply pw_below_drewN | apply below_drew1 | refine below_set ?_ GE196.out | refine below_set ?_ GE197.out) | exact HB.out))) : w.heap.size ≤ gb198)); have n5_ := Aside0.mk ((by rw [hg]; exact (below_size (by repeat (first | (with_reducible first | exact HB.out | apply below_alloc | apply pw_below_drewN | apply below_drew1 | refine below_set ?_ GE196.out | refine below_set ?_ GE197.out) | exact HB.out))) : w.heap.size ≤ gb198)); have n6_ := Aside0.mk ((by rw [hg]; exact Nat.ne_of_lt (blk_lt (g := gb196) (o := .cells #[.int .i64 a0_0, .int .i64 a0_1, .string a0_2] 24 (0, 0)) (by (with_reducible repeat (first | refine blk_drewN ?_ _ | refine blk_drew ?_ | refine blk_alloc ?_ _)); exact BK196.out)) : gb196 ≠ gb198)); have n7_ := Aside0.mk ((by rw [hg]; exact Nat.ne_of_gt (blk_lt (g := gb196) (o := .cells #[.int .i64 a0_0, .int .i64 a0_1, .string a0_2] 24 (0, 0)) (by (with_reducible repeat (first | refine blk_drewN ?_ _ | refine blk_drew ?_ | refine blk_alloc ?_ _)); exact BK196.out)) : gb198 ≠ gb196)); have n8_ := Aside0.mk ((by rw [hg]; exact Nat.ne_of_lt (blk_lt (g := gb197) (o := .cells #[.int .i64 a1_0, .int .i64 a1_1, .string a1_2] 24 (0, 0)) (by (with_reducible repeat (first | refine blk_drewN ?_ _ | refine blk_drew ?_ | refine blk_alloc ?_ _)); exact BK197.out)) : gb197 ≠ gb198)); have n9_ := Aside0.mk ((by rw [hg]; exact Nat.ne_of_gt (blk_lt (g := gb197) (o := .cells #[.int .i64 a1_0, .int .i64 a1_1, .string a1_2] 24 (0, 0)) (by (with_reducible repeat (first | refine blk_drewN ?_ _ | refine blk_drew ?_ | refine blk_alloc ?_ _)); exact BK197.out)) : gb198 ≠ gb197)); clear BK196; clear BK197; clear HB; have BK196 := n0_; have BK197 := n1_; have HB := n2_; have BK198 := n3_; have GW198 := n4_; have GE198 := n5_; have NB196_198 := n6_; have NB198_196 := n7_; have NB197_198 := n8_; have NB198_197 := n9_; clear n0_ n1_ n2_ n3_ n4_ n5_ n6_ n7_ n8_ n9_; clear hb hbox hg; have hnb50 := NB196_197.out; have hnc50 := NB197_196.out; have hnb51 := NB196_198.out; have hnc51 := NB198_196.out; have hcz52_0 : w49.cell? ⟨gb196, 0, none⟩ = some (.int .i64 a0_0) := (blk_cell BK196.out 0).trans rfl; have hcz52_1 : w49.cell? ⟨gb196, 1, none⟩ = some (.int .i64 a0_1) := (blk_cell BK196.out 1).trans rfl; have hcz52_2 : w49.cell? ⟨gb196, 2, none⟩ = some (.string a0_2) := (blk_cell BK196.out 2).trans rfl; have hfz52_0 := blk_frozen BK196.out 0; have hfz52_1 := blk_frozen BK196.out 1; have hfz52_2 := blk_frozen BK196.out 2) | ((with_reducible refine gate_callee (f := 19) rfl ?_); refine goesL_ (some 7) rfl rfl Try.func19 (by kernel_rfl) rfl #[.agg #[.int .i64 a0_0, .int .i64 a0_1, .string a0_2]] rfl (by (try simp only [List.map_toArray, List.map_cons, List.map_nil]); first | done | rfl | (simp only [List.length_drop, List.length_take]; rfl)) ?_; (with_reducible refine (corncribref02_Check.calls a0_0 a0_1 a0_2 t199 _ A3.out).mono ?_); rintro e w53 ⟨rfl, hb⟩; refine ⟨_, rfl, ?_⟩; have n0_ := Aside0.mk (blk_below (g := gb196) (o := .cells #[.int .i64 a0_0, .int .i64 a0_1, .string a0_2] 24 (0, 0)) (by (with_reducible repeat (first | refine blk_drewN ?_ _ | refine blk_drew ?_ | refine blk_alloc ?_ _)); exact BK196.out) hb); have n1_ := Aside0.mk (blk_below (g := gb197) (o := .cells #[.int .i64 a1_0, .int .i64 a1_1, .string a1_2] 24 (0, 0)) (by (with_reducible repeat (first | refine blk_drewN ?_ _ | refine blk_drew ?_ | refine blk_alloc ?_ _)); exact BK197.out) hb); have n2_ := Aside0.mk (blk_below (g := gb198) (o := .cells #[.int .i64 0, .int .i64 0, .string (⟨#[]⟩ : ByteArray)] 24 (0, 0)) (by (with_reducible repeat (first | refine blk_drewN ?_ _ | refine blk_drew ?_ | refine blk_alloc ?_ _)); exact BK198.out) hb); have n3_ := Aside0.mk (below_step (by repeat (first | (with_reducible first | exact HB.out | apply below_alloc | apply pw_below_drewN | apply below_drew1 | refine below_set ?_ GE196.out | refine below_set ?_ GE197.out | refine below_set ?_ GE198.out) | exact HB.out)) hb); clear BK196; clear BK197; clear BK198; clear HB; have BK196 := n0_; have BK197 := n1_; have BK198 := n2_; have HB := n3_; clear n0_ n1_ n2_ n3_; (try clear hb); (try clear hb2); (try clear hk); (try clear hi); have hnb54 := NB198_197.out; have hnc54 := NB197_198.out; have hcz55_0 : w53.cell? ⟨gb198, 0, none⟩ = some (.int .i64 0) := (blk_cell BK198.out 0).trans rfl; have hcz55_1 : w53.cell? ⟨gb198, 1, none⟩ = some (.int .i64 0) := (blk_cell BK198.out 1).trans rfl; have hcz55_2 : w53.cell? ⟨gb198, 2, none⟩ = some (.string (⟨#[]⟩ : ByteArray)) := (blk_cell BK198.out 2).trans rfl; have hfz55_0 := blk_frozen BK198.out 0; have hfz55_1 := blk_frozen BK198.out 1; have hfz55_2 := blk_frozen BK198.out 2))
  refine bodyPost_ret (results_ct rfl _ _ gb198 24 #[.int .i64 0, .int .i64 0, .string (⟨#[]⟩ : ByteArray)] (0, 0) _ rfl (by (with_reducible repeat (first | refine blk_drewN ?_ _ | refine blk_drew ?_ | refine blk_alloc ?_ _)); refine blk_put (cs := #[.int .i64 0, .int .i64 0, .string (⟨#[]⟩ : ByteArray)]) ?_ 2 _ rfl; (with_reducible repeat (first | refine blk_drewN ?_ _ | refine blk_drew ?_ | refine blk_alloc ?_ _)); refine blk_put (cs := #[.int .i64 0, .int .i64 0, .string (⟨#[]⟩ : ByteArray)]) ?_ 1 _ rfl; (with_reducible repeat (first | refine blk_drewN ?_ _ | refine blk_drew ?_ | refine blk_alloc ?_ _)); refine blk_put (cs := #[.int .i64 0, .int .i64 0, .string (⟨#[]⟩ : ByteArray)]) ?_ 0 _ rfl; (with_reducible repeat (first | refine blk_drewN ?_ _ | refine blk_drew ?_ | refine blk_alloc ?_ _)); exact BK198.out) Try.underlying24 rfl (by kernel_rfl)) rfl ?_
  exact ⟨by first | rfl | (simp [errW_none, errW_some] <;> rfl) | (simp [*, errW_none, errW_some] <;> rfl), by repeat (first | (with_reducible first | exact HB.out | apply below_alloc | apply pw_below_drewN | apply below_drew1 | refine below_set ?_ GE196.out | refine below_set ?_ GE197.out | refine below_set ?_ GE198.out) | exact HB.out)⟩

end Go.Proofs.Ytoghhpkmficnmaa.Al

/- The document's matrices (identity, product, check) as plain functions. -/
namespace Go.Proofs.Ytoghhpkmficnmaa.Al
open Go.RowKit Go.Proofs.Ytoghhpkmficnmaa.GfMath Go.Proofs.Ytoghhpkmficnmaa.GfRef Go.Proofs.Ytoghhpkmficnmaa.Base Go.Proofs.Ytoghhpkmficnmaa.Bytes Go.Proofs.Ytoghhpkmficnmaa.Grid Go.Proofs.YtoghhpkmficnmaaW.PrintWords Go.Proofs.YtoghhpkmficnmaaW.PrintMore
set_option linter.unusedVariables false
theorem rchk_f (r c : Int) (s : ByteArray) : corncribref02_Check.f r c s = some (chkE r c s) := by
 unfold corncribref02_Check.f chkE
 by_cases h1 : r < 1
 ·rw [if_pos h1, if_neg (fun hc => by have := hc.1; omega)]
 rw [if_neg h1]
 by_cases h2 : r > 255
 ·rw [if_pos h2, if_neg (fun hc => by have := hc.2.1; omega)]
 rw [if_neg h2]
 by_cases h3 : c < 1
 ·rw [if_pos h3, if_neg (fun hc => by have := hc.2.2.1; omega)]
 rw [if_neg h3]
 by_cases h4 : c > 255
 ·rw [if_pos h4, if_neg (fun hc => by have := hc.2.2.2.1; omega)]
 rw [if_neg h4]
 have hb : 0 ≤ r * c ∧ r * c ≤ 255 * 255 := ⟨Int.mul_nonneg (by omega) (by omega), Int.mul_le_mul (by omega) (by omega) (by omega) (by omega)⟩
 rw [wrap_id (by omega) (by omega)]
 by_cases h5 : (s.size : Int) = r * c
 ·rw [if_pos h5, if_pos ⟨by omega, by omega, by omega, by omega, h5⟩]
 ·rw [if_neg h5, if_neg (fun hc => h5 hc.2.2.2.2)]
theorem wrap_nat {n : Nat} (h : n < 9223372036854775808) : wrap64 (n : Int) = n := wrap_id (by omega) (by omega)
theorem wrap_at {i m j : Nat} (h : i * m + j < 9223372036854775808) : wrap64 (wrap64 ((i : Int) * (m : Int)) + (j : Int)) = ((i * m + j : Nat) : Int) := by
 rw [← Int.natCast_mul, wrap_nat (by omega), ← Int.natCast_add, wrap_nat h]
theorem wrap_suc {i : Nat} (h : i < 9223372036854775807) : wrap64 ((i : Int) + 1) = ((i + 1 : Nat) : Int) := by
 rw [wrap_id (by omega) (by omega)]; omega
theorem at_lt {n m i j : Nat} (hi : i < n) (hj : j < m) : i * m + j < n * m := by
 have : (i + 1) * m ≤ n * m := Nat.mul_le_mul_right m hi
 rw [Nat.add_mul, Nat.one_mul] at this
 omega
theorem at_div {m i j : Nat} (hj : j < m) : (i * m + j) / m = i := by
 rw [Nat.add_comm, Nat.add_mul_div_right _ _ (by omega), Nat.div_eq_of_lt hj, Nat.zero_add]
theorem at_mod {m i j : Nat} (hj : j < m) : (i * m + j) % m = j := by
 rw [Nat.add_comm, Nat.add_mul_mod_self_right, Nat.mod_eq_of_lt hj]
theorem listOf_put (n : Nat) (f : Nat → Int) (i : Nat) (v : Int) : (listOf n f).set i v = listOf n (fun k => if k = i then v else f k) := by
 refine List.ext_getElem (by simp [listOf]) fun k h1 h2 => ?_
 have hk : k < n := by simpa [listOf] using h2
 rw [List.getElem_set]
 simp only [listOf, List.getElem_map, List.getElem_range]
 by_cases e : i = k
 ·subst e; simp
 ·rw [if_neg e, if_neg (Ne.symm e)]
theorem one_l0 {n : Nat} (h1 : 1 ≤ n) (h2 : n ≤ 255) : ∀ (d i : Nat), i + d = n →
  Ev (fun k => corncribref02_One.l0 k n (listOf (n * n) fun q => if q / n < i then ixI (q / n) (q % n) else 0) i) ((n : Int), (n : Int), cellsOf n n ixI)
 |0, i, hd => by
  refine Ev.succ ?_
  simp only [corncribref02_One.l0]
  refine Ev.neg (by omega) ?_
  obtain rfl : i = n := by omega
  rw [cellsOf, listOf_congr (f' := fun q => ixI (q / i) (q % i)) fun q hq => if_pos ((Nat.div_lt_iff_lt_mul (by omega)).2 hq)]
  exact Ev.now _
 |d + 1, i, hd => by
  have hnn : n * n ≤ 255 * 255 := Nat.mul_le_mul h2 h2
  have hi : i < n := by omega
  have hlt := at_lt hi hi
  refine Ev.succ ?_
  simp only [corncribref02_One.l0]
  refine Ev.pos (by omega) ?_
  rw [wrap_at (by omega), listOf_length]
  refine Ev.pos (by omega) (Ev.pos (by omega) ?_)
  rw [Int.toNat_natCast, listOf_put, wrap_suc (by omega)]
  rw [listOf_congr (f' := fun q => if q / n < i + 1 then ixI (q / n) (q % n) else 0) fun q hq => ?_]
  ·exact one_l0 h1 h2 d (i + 1) (by omega)
  ·have hm := Nat.mod_lt q (show n > 0 by omega)
   obtain ⟨a, b, hb, rfl⟩ : ∃ a b, b < n ∧ q = a * n + b := ⟨q / n, q % n, hm, by rw [Nat.mul_comm, Nat.div_add_mod]⟩
   show (if a * n + b = i * n + i then (1 : Int) else if (a * n + b) / n < i then ixI ((a * n + b) / n) ((a * n + b) % n) else 0) = if (a * n + b) / n < i + 1 then ixI ((a * n + b) / n) ((a * n + b) % n) else 0
   rw [at_div hb, at_mod hb]
   by_cases e : a * n + b = i * n + i
   ·have ea := congrArg (· / n) e
    have eb := congrArg (· % n) e
    simp only [at_div hb, at_div hi, at_mod hb, at_mod hi] at ea eb
    subst ea eb
    rw [if_pos e, if_pos (by omega), ixI, if_pos rfl]
   ·rw [if_neg e]
    by_cases h : a < i
    ·rw [if_pos h, if_pos (by omega)]
    ·rw [if_neg h]
     by_cases h' : a < i + 1
     ·obtain rfl : a = i := by omega
      rw [if_pos h', ixI, if_neg (fun hc => e (by rw [hc]))]
     ·rw [if_neg h']
theorem replicate_listOf (n : Nat) : List.replicate n (0 : Int) = listOf n fun _ => 0 := by
 refine List.ext_getElem (by simp [listOf]) fun k h1 h2 => ?_
 simp [listOf]
theorem one_ev {n : Nat} (h1 : 1 ≤ n) (h2 : n ≤ 255) : Ev (fun k => corncribref02_One.f k n) ((n : Int), (n : Int), cellsOf n n ixI) := by
 have hnn : n * n ≤ 255 * 255 := Nat.mul_le_mul h2 h2
 unfold corncribref02_One.f
 rw [← Int.natCast_mul, wrap_nat (by omega), Int.toNat_natCast]
 refine Ev.pos (by omega) (Ev.pos (by omega) ?_)
 rw [replicate_listOf]
 have := one_l0 h1 h2 n 0 (by omega)
 rw [listOf_congr (f' := fun _ => (0 : Int)) fun q hq => if_neg (Nat.not_lt_zero _)] at this
 exact this
theorem rid_ev (n : Int) : Ev (fun k => corncribref02_Identity.f k n) (idV n) := by
 unfold corncribref02_Identity.f idV
 by_cases h1 : n < 1
 ·rw [if_neg (by omega)]
  exact Ev.pos h1 (Ev.now _)
 by_cases h2 : n > 255
 ·rw [if_neg (by omega)]
  exact Ev.neg h1 (Ev.pos h2 (Ev.now _))
 obtain ⟨m, rfl⟩ := Int.eq_ofNat_of_zero_le (show 0 ≤ n by omega)
 rw [if_pos (by omega), Int.toNat_natCast]
 exact Ev.neg h1 (Ev.neg h2 (Ev.bind (one_ev (by omega) (by omega)) (Ev.now _)))
section
variable {n m p : Nat} {s t : ByteArray}
theorem tim_l2 (h1 : okM n m s) (h2 : okM m p t) {out : List Int} {i j : Nat} (hi : i < n) (hj : j < p) (ho : out.length < 140737488355328) {r : Int × Int × ByteArray}
  (K : Ev (fun k => corncribref02_Times.l1 k (out ++ [toI (mm m (entN m s) (entN p t)) i j]) i ((j + 1 : Nat) : Int) n m s m p t) r) : ∀ (d c : Nat), c + d = m →
  Ev (fun k => corncribref02_Times.l2 k out i j ((xs c fun q => mulN (entN m s i q) (entN p t q j) : Nat) : Int) c n m s m p t) r
 |0, c, hd => by
  refine Ev.succ ?_
  simp only [corncribref02_Times.l2]
  refine Ev.neg (by omega) (Ev.pos ho ?_)
  obtain rfl : c = m := by omega
  rw [wrap_suc (by have := h2.2.2.2.1; omega)]
  exact K
 |d + 1, c, hd => by
  obtain ⟨a1, a2, a3, a4, a5⟩ := h1
  obtain ⟨b1, b2, b3, b4, b5⟩ := h2
  have hs : s.size = n * m := by rw [← Int.natCast_mul] at a5; exact Int.ofNat_inj.1 a5
  have ht : t.size = m * p := by rw [← Int.natCast_mul] at b5; exact Int.ofNat_inj.1 b5
  have l1 := at_lt hi (show c < m by omega)
  have l2 := at_lt (show c < m by omega) hj
  have z1 : n * m ≤ 255 * 255 := Nat.mul_le_mul (by omega) (by omega)
  have z2 : m * p ≤ 255 * 255 := Nat.mul_le_mul (by omega) (by omega)
  refine Ev.succ ?_
  simp only [corncribref02_Times.l2]
  refine Ev.pos (by omega) ?_
  rw [wrap_at (by omega), wrap_at (by omega)]
  refine Ev.pos (by omega) (Ev.pos (by omega) (Ev.pos (by omega) (Ev.pos (by omega) ?_)))
  rw [← toI_ent, ← toI_ent]
  refine Ev.bind (rmul_ev (entN_by m s i c) (entN_by p t c j)) ?_
  have hx : Byte ((xs c fun q => mulN (entN m s i q) (entN p t q j) : Nat) : Int) := by
   have := xs_lt (n := c) (f := fun q => mulN (entN m s i q) (entN p t q j)) fun _ _ => mul_lt _ _
   unfold Byte; omega
  have hy : Byte ((mulN (entN m s i c) (entN p t c j) : Nat) : Int) := by
   have := mul_lt (entN m s i c) (entN p t c j)
   unfold Byte; omega
  rw [(byte_xor hx hy).2, Int.toNat_natCast, Int.toNat_natCast, wrap_suc (by omega)]
  exact tim_l2 ⟨a1, a2, a3, a4, a5⟩ ⟨b1, b2, b3, b4, b5⟩ hi hj ho K d (c + 1) (by omega)
theorem tim_l1 (h1 : okM n m s) (h2 : okM m p t) {i : Nat} (hi : i < n) {r : Int × Int × ByteArray}
  (K : Ev (fun k => corncribref02_Times.l0 k (listOf ((i + 1) * p) fun q => toI (mm m (entN m s) (entN p t)) (q / p) (q % p)) ((i + 1 : Nat) : Int) n m s m p t) r) : ∀ (d j : Nat), j + d = p →
  Ev (fun k => corncribref02_Times.l1 k (listOf (i * p + j) fun q => toI (mm m (entN m s) (entN p t)) (q / p) (q % p)) i j n m s m p t) r
 |0, j, hd => by
  refine Ev.succ ?_
  simp only [corncribref02_Times.l1]
  refine Ev.neg (by omega) ?_
  obtain rfl : j = p := by omega
  rw [wrap_suc (by have := h1.2.1; omega), show i * j + j = (i + 1) * j from by rw [Nat.add_mul, Nat.one_mul]]
  exact K
 |d + 1, j, hd => by
  have hj : j < p := by omega
  refine Ev.succ ?_
  simp only [corncribref02_Times.l1]
  refine Ev.pos (by omega) ?_
  refine tim_l2 h1 h2 hi hj (by
   rw [listOf_length]
   have := at_lt hi hj
   have z : n * p ≤ 255 * 255 := Nat.mul_le_mul (by have := h1.2.1; omega) (by have := h2.2.2.2.1; omega)
   omega) ?_ m 0 (by omega)
  have := tim_l1 h1 h2 hi K d (j + 1) (by omega)
  rw [show i * p + (j + 1) = (i * p + j) + 1 by omega, listOf_add] at this
  rw [show listOf 1 (fun x => toI (mm m (entN m s) (entN p t)) ((i * p + j + x) / p) ((i * p + j + x) % p)) = [toI (mm m (entN m s) (entN p t)) i j] from by
   show [toI (mm m (entN m s) (entN p t)) ((i * p + j + 0) / p) ((i * p + j + 0) % p)] = _
   rw [Nat.add_zero, at_div hj, at_mod hj]] at this
  exact this
theorem tim_l0 (h1 : okM n m s) (h2 : okM m p t) : ∀ (d i : Nat), i + d = n →
  Ev (fun k => corncribref02_Times.l0 k (listOf (i * p) fun q => toI (mm m (entN m s) (entN p t)) (q / p) (q % p)) i n m s m p t) ((n : Int), (p : Int), cellsOf n p (toI (mm m (entN m s) (entN p t))))
 |0, i, hd => by
  refine Ev.succ ?_
  simp only [corncribref02_Times.l0]
  refine Ev.neg (by omega) ?_
  obtain rfl : i = n := by omega
  exact Ev.now _
 |d + 1, i, hd => by
  refine Ev.succ ?_
  simp only [corncribref02_Times.l0]
  refine Ev.pos (by omega) ?_
  exact tim_l1 h1 h2 (by omega) (tim_l0 h1 h2 d (i + 1) (by omega)) p 0 (by omega)
theorem tim_ev (h1 : okM n m s) (h2 : okM m p t) : Ev (fun k => corncribref02_Times.f k n m s m p t) ((n : Int), (p : Int), cellsOf n p (toI (mm m (entN m s) (entN p t)))) := by
 have := tim_l0 h1 h2 n 0 (by omega)
 rw [Nat.zero_mul] at this
 exact this
end
theorem rmulM_ev (ra ca : Int) (s : ByteArray) (rb cb : Int) (t : ByteArray) : Ev (fun k => corncribref02_Mul.f k ra ca s rb cb t) (mulV ra ca s rb cb t) := by
 unfold corncribref02_Mul.f mulV
 rw [rchk_f, rchk_f]
 simp only [Option.bind_some, chkE]
 by_cases h1 : okM ra ca s
 ·rw [if_pos h1]
  refine Ev.pos rfl ?_
  by_cases h2 : okM rb cb t
  ·rw [if_pos h2]
   refine Ev.pos rfl ?_
   by_cases h3 : ca = rb
   ·subst h3
    rw [if_pos ⟨h1, h2, rfl⟩]
    refine Ev.pos rfl ?_
    obtain ⟨n, rfl⟩ := Int.eq_ofNat_of_zero_le (show 0 ≤ ra by have := h1.1; omega)
    obtain ⟨m, rfl⟩ := Int.eq_ofNat_of_zero_le (show 0 ≤ ca by have := h2.1; omega)
    obtain ⟨p, rfl⟩ := Int.eq_ofNat_of_zero_le (show 0 ≤ cb by have := h2.2.2.1; omega)
    exact Ev.bind (tim_ev h1 h2) (Ev.now _)
   ·rw [if_neg (fun hc => h3 hc.2.2)]
    exact Ev.neg h3 (Ev.now _)
  ·rw [if_neg h2, if_neg (fun hc => h2 hc.2.1)]
   exact Ev.neg (by decide) (Ev.now _)
 ·rw [if_neg h1, if_neg (show ¬ (okM ra ca s ∧ okM rb cb t ∧ ca = rb) from fun hc => h1 hc.1)]
  exact Ev.neg (by decide) (Ev.now _)
end Go.Proofs.Ytoghhpkmficnmaa.Al
