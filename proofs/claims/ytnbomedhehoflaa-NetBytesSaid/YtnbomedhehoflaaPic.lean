/- What the laws stand on, in one text: functions of the program by their contracts, the plain mathematics behind them, and such of the printed words as these use. It began as the kit's print and own texts; put together by a program (trim.py). -/
import Derived.Test.YtnbomedhehoflaaPib
import Derived.Deep.RegionHeld3
import Derived.Deep.RegionLaw

namespace Go.Proofs.Ytnbomedhehoflaa.Al
open Go.RowKit Go.Proofs.RegT Go.Proofs.Ytnbomedhehoflaa.Base Go.Proofs.Ytnbomedhehoflaa.LetSpec Go.Proofs.YtnbomedhehoflaaW.PrintWords Go.Proofs.YtnbomedhehoflaaW.PrintLast Go.Proofs.YtnbomedhehoflaaW.PrintMore
set_option linter.unusedVariables false
set_option linter.unusedSimpArgs false
def flagsOf (l : List S72) : List Int := l.map fun x => if x.f2 = true then 1 else 0
def pairsOf (l : List S72) : List ByteArray := (l.map fun x => [x.f0, x.f1]).flatten
def letter_Encode.f (k : Nat) (a0_0 : Int) (a0_1 : Int) (a0_2 : Int) (a0_3 : Int) (a0_4 : Int) (a0_5 : Int) (a0_6 : ByteArray) (l0_7 : List ByteArray) (l0_8 : List (S72)) : Option (ByteArray × Int) :=
 (letter_Check.f a0_0 a0_1 a0_2 a0_3 a0_4 a0_5 a0_6 l0_7 l0_8).bind fun t => if t = 0 then (if l0_7.length ≤ 1000000 ∧ l0_8.length ≤ 1000000 then pack_Encode.f k ([a0_0, a0_1, a0_2, a0_3, a0_4, a0_5, (l0_7.length : Int)] ++ flagsOf l0_8) ([a0_6] ++ l0_7 ++ pairsOf l0_8) else none) else some ((⟨#[]⟩ : ByteArray), t)
/-- The pack under way: the letter's block gl, the pack's block gp, its slices. -/
structure PE (w0 W : World) (gl : Nat) (cs : Array Value) (gp : Nat) (xs : List Int) (ts : List ByteArray) (vN vT : Value) : Prop where
 bl : W.heap[gl]? = some (.cells cs 32 (0, 0))
 bp : W.heap[gp]? = some (.cells #[vN, vT] 70 (0, 0))
 gep : w0.heap.size ≤ gp
 ns : (Kd.int .i64).R 3 W w0.heap.size (fun _ => True) vN xs
 ts : Kd.string.R 9 W w0.heap.size (fun _ => True) vT ts
 bel : Below w0.heap.size w0 W
theorem blkFar {W : World} {g : Nat} {o : Obj} (h : W.heap[g]? = some o) (p : Addr) (hne : g ≠ p.block) (u : Value) : (W.setCell p u).heap[g]? = some o := (Below.heap_setCell W p u g hne).trans h
theorem blkNe {W : World} {g g' t t' : Nat} {cs cs' : Array Value} (h : W.heap[g]? = some (.cells cs t (0, 0))) (h' : W.heap[g']? = some (.cells cs' t' (0, 0))) (ht : t ≠ t') : g ≠ g' := by
 rintro rfl
 rw [h] at h'
 injection h' with h'
 injection h' with _ h'
 exact ht h'
section
variable {w0 W : World} {gl gp : Nat} {cs : Array Value} {xs : List Int} {ts : List ByteArray} {vN vT : Value}
theorem PE.below {W1 : World} (h : PE w0 W gl cs gp xs ts vN vT) (hb : Below W.heap.size W W1) : PE w0 W1 gl cs gp xs ts vN vT where
 bl := blk_below h.bl hb
 bp := blk_below h.bp hb
 gep := h.gep
 ns := Kd.R_below h.ns hb
 ts := Kd.R_below h.ts hb
 bel := below_step h.bel hb
theorem PE.set (h : PE w0 W gl cs gp xs ts vN vT) {g : Nat} {cs' : Array Value} (hq : W.heap[g]? = some (.cells cs' 72 (0, 0))) (hge : w0.heap.size ≤ g) (j : Nat) (u : Value) : PE w0 (W.setCell ⟨g, j, none⟩ u) gl cs gp xs ts vN vT where
 bl := blkFar h.bl _ (blkNe h.bl hq (by decide)) u
 bp := blkFar h.bp _ (blkNe h.bp hq (by decide)) u
 gep := h.gep
 ns := Kd.R_set h.ns hq (by decide) j u
 ts := Kd.R_set h.ts hq (by decide) j u
 bel := below_set h.bel hge
theorem PE.drew (h : PE w0 W gl cs gp xs ts vN vT) : PE w0 W.drew gl cs gp xs ts vN vT := h.below (below_drew (Below.refl _ _))
/-- The new slices are stored. -/
theorem PE.of {w3 : World} {vN' vT' : Value} (hl : w3.heap[gl]? = some (.cells cs 32 (0, 0))) (hb : Below w0.heap.size w0 w3) (hn : (Kd.int .i64).R 3 w3 w0.heap.size (fun _ => True) vN xs) (ht : Kd.string.R 9 w3 w0.heap.size (fun _ => True) vT ts) (hq : w3.heap[gp]? = some (.cells #[vN', vT'] 70 (0, 0))) (hge : w0.heap.size ≤ gp) : PE w0 ((w3.setCell ⟨gp, 0, none⟩ vN).setCell ⟨gp, 1, none⟩ vT) gl cs gp xs ts vN vT where
 bl := blkFar (blkFar hl _ (blkNe hl hq (by decide)) _) _ (blkNe hl hq (by decide)) _
 bp := by simpa using blk_set (blk_set hq 0 vN) 1 vT
 gep := hge
 ns := Kd.R_set (Kd.R_set hn hq (by decide) 0 vN) (by simpa using blk_set hq 0 vN) (by decide) 1 vT
 ts := Kd.R_set (Kd.R_set ht hq (by decide) 0 vN) (by simpa using blk_set hq 0 vN) (by decide) 1 vT
 bel := below_set (below_set hb hge) hge
theorem round_less {n i : Nat} {x : Int} (hx : x = (i : Int)) (h : i < n) : n - (intOf (.int .i64 (x + 1))).toNat < n - (intOf (.int .i64 x)).toNat := by simp [intOf]; omega
theorem pairs_len (l : List S72) : (pairsOf l).length = 2 * l.length := by
 unfold pairsOf
 induction l with
 |nil => rfl
 |cons x l ih => simp only [List.map_cons, List.flatten_cons, List.length_append, List.length_cons, List.length_nil]; omega
theorem flags_step {l : List S72} {i : Nat} (h : i < l.length) : flagsOf (l.take (i + 1)) = flagsOf (l.take i) ++ [if l[i].f2 = true then 1 else 0] := by unfold flagsOf; rw [List.take_succ_eq_append_getElem h, List.map_append]; rfl
theorem pairs_step {l : List S72} {i : Nat} (h : i < l.length) : pairsOf (l.take (i + 1)) = pairsOf (l.take i) ++ [l[i].f0, l[i].f1] := by unfold pairsOf; rw [List.take_succ_eq_append_getElem h, List.map_append, List.flatten_append]; simp only [List.map_cons, List.map_nil, List.flatten_cons, List.flatten_nil, List.append_nil]
end
theorem reps_ints (W : World) (base : Nat) (ok : Nat → Prop) (l : List Int) : Reps ((Kd.int .i64).M W base ok) 1 l (l.map (Value.int .i64)) :=
 ⟨by simp, fun j p hj => by
  have h : (l.map (Value.int .i64))[j]? = some (.int .i64 p) := by rw [List.getElem?_map, hj]; rfl
  obtain ⟨h1, h2⟩ := List.getElem?_eq_some_iff.1 h
  show (List.drop (j * 1) _).take 1 = [Value.int .i64 p]
  rw [Nat.mul_one, List.drop_eq_getElem_cons h1, h2]
  rfl⟩
theorem reps_texts (W : World) (base : Nat) (ok : Nat → Prop) (l : List ByteArray) : Reps (Kd.string.M W base ok) 1 l (l.map Value.string) :=
 ⟨by simp, fun j p hj => by
  have h : (l.map Value.string)[j]? = some (.string p) := by rw [List.getElem?_map, hj]; rfl
  obtain ⟨h1, h2⟩ := List.getElem?_eq_some_iff.1 h
  show (List.drop (j * 1) _).take 1 = [Value.string p]
  rw [Nat.mul_one, List.drop_eq_getElem_cons h1, h2]
  rfl⟩
theorem step_alloc {P : Program} {ops : Array Oper} {o : Oper} {a : Act} {W : World} {Q : Exit → Act → World → Prop} {Kc : Act → World → Prop} {ob : Obj} (hw : Region.wanted o (yielded ops a.tmps) = true) (hrun : (execOp a.eval o).run P W = .ok (.value (.pointer (some ⟨W.heap.size, 0, none⟩))) (W.alloc ob))
  (h : ∀ w1 gz, w1.heap[gz]? = some ob → W.heap.size ≤ gz → Below W.heap.size W w1 → Kc (a.put o.dst (.pointer (some ⟨gz, 0, none⟩))) w1) : if Region.wanted o (yielded ops a.tmps) = true then Oper.wp P o a W Kc Q else Kc (a.put o.dst undef) W :=
 event_step hw hrun (h (W.alloc ob) W.heap.size (blk_new _ _) (Nat.le_refl _) (below_alloc (Below.refl _ _) _))
theorem keep8 {W : World} {gl : Nat} {b0 b1 b2 b3 b4 b5 : Int} {t : ByteArray} {A7 A8 : Option Addr} {n7 c7 n8 c8 : Nat} (h : W.heap[gl]? = some (.cells #[.int .i64 b0, .int .i64 b1, .int .i64 b2, .int .i64 b3, .int .i64 b4, .int .i64 b5, .string t, .slice A7 n7 c7, .slice A8 n8 c8] 32 (0, 0))) : W.cell? ⟨gl, 0, none⟩ = some (.int .i64 b0) ∧ W.cell? ⟨gl, 1, none⟩ = some (.int .i64 b1) ∧ W.cell? ⟨gl, 2, none⟩ = some (.int .i64 b2) ∧ W.cell? ⟨gl, 3, none⟩ = some (.int .i64 b3) ∧ W.cell? ⟨gl, 4, none⟩ = some (.int .i64 b4) ∧ W.cell? ⟨gl, 5, none⟩ = some (.int .i64 b5) ∧ W.cell? ⟨gl, 6, none⟩ = some (.string t) ∧ W.cell? ⟨gl, 7, none⟩ = some (.slice A7 n7 c7) :=
 ⟨(blk_cell h 0).trans rfl, (blk_cell h 1).trans rfl, (blk_cell h 2).trans rfl, (blk_cell h 3).trans rfl, (blk_cell h 4).trans rfl, (blk_cell h 5).trans rfl, (blk_cell h 6).trans rfl, (blk_cell h 7).trans rfl⟩
set_option maxHeartbeats 8000000 in
set_option maxRecDepth 100000 in
theorem letter_Encode.calls (k : Nat) (a0_0 : Int) (a0_1 : Int) (a0_2 : Int) (a0_3 : Int) (a0_4 : Int) (a0_5 : Int) (a0_6 : ByteArray) (A0_7 : Option Addr) (c0_7 : Nat) (l0_7 : List ByteArray) (A0_8 : Option Addr) (c0_8 : Nat) (l0_8 : List (S72)) (r1 : ByteArray) (r2 : Int) (w : World) (hr0_7 : Kd.C Kd.string w A0_7 l0_7.length l0_7) (hc0_7 : l0_7.length ≤ c0_7) (hr0_8 : Kd.C k72 w A0_8 l0_8.length l0_8) (hc0_8 : l0_8.length ≤ c0_8) (h : letter_Encode.f k a0_0 a0_1 a0_2 a0_3 a0_4 a0_5 a0_6 l0_7 l0_8 = some (r1, r2)) :
  Calls Try.prog 18 #[.agg #[.int .i64 a0_0, .int .i64 a0_1, .int .i64 a0_2, .int .i64 a0_3, .int .i64 a0_4, .int .i64 a0_5, .string a0_6, .slice A0_7 l0_7.length c0_7, .slice A0_8 l0_8.length c0_8]] w fun e w' => e = .returned (.tuple #[.string r1, .int .i64 r2]) ∧ Below w.heap.size w w' := by
 have hu32 := Try.underlying32
 have hu72 := Try.underlying72
 have hu70 := Try.underlying70
 have HR7 := Aside0.mk hr0_7
 have HC7 := Aside0.mk hc0_7
 have HR8 := Aside0.mk hr0_8
 have HC8 := Aside0.mk hc0_8
 clear hr0_7 hc0_7 hr0_8 hc0_8
 have H : ((letter_Check.f a0_0 a0_1 a0_2 a0_3 a0_4 a0_5 a0_6 l0_7 l0_8).bind fun t => if t = 0 then (if l0_7.length ≤ 1000000 ∧ l0_8.length ≤ 1000000 then pack_Encode.f k ([a0_0, a0_1, a0_2, a0_3, a0_4, a0_5, (l0_7.length : Int)] ++ flagsOf l0_8) ([a0_6] ++ l0_7 ++ pairsOf l0_8) else none) else some ((⟨#[]⟩ : ByteArray), t)) = some (r1, r2) := h
 clear h
 replace H := Option.bind_eq_some_iff.mp H
 obtain ⟨t, A20, H⟩ := H
 replace H : (if t = 0 then (if l0_7.length ≤ 1000000 ∧ l0_8.length ≤ 1000000 then pack_Encode.f k ([a0_0, a0_1, a0_2, a0_3, a0_4, a0_5, (l0_7.length : Int)] ++ flagsOf l0_8) ([a0_6] ++ l0_7 ++ pairsOf l0_8) else none) else some ((⟨#[]⟩ : ByteArray), t)) = some (r1, r2) := H
 have A2 := Aside0.mk A20
 clear A20
 by_cases c3 : t = 0
 ·rw [if_pos c3] at H
  subst c3
  by_cases hl : l0_7.length ≤ 1000000 ∧ l0_8.length ≤ 1000000
  ·rw [if_pos hl] at H
   obtain ⟨hl7, hl8⟩ := hl
   have HPK := Aside0.mk H
   clear H
   go_enter Try.func18, Try.ntmps18
   go_wp2_with (first | ((with_reducible refine gate_dst (N := 1) rfl ?_); refine box_event ?hg (N := 1) ?hd (cs := #[.int .i64 a0_0, .int .i64 a0_1, .int .i64 a0_2, .int .i64 a0_3, .int .i64 a0_4, .int .i64 a0_5, .string a0_6, .slice A0_7 l0_7.length c0_7, .slice A0_8 l0_8.length c0_8]) (t := 32) ?hr ?_; (case hd => rfl); (case hg => rfl); (case hr => first | (go_simp; done) | (go_simp; rfl)); intro gl hgl w1 hbox hb; have HB := Aside0.mk hb; have BL := Aside0.mk hbox; clear hgl hb hbox; have hcz_0 : w1.cell? ⟨gl, 0, none⟩ = some (.int .i64 a0_0) := (blk_cell BL.out 0).trans rfl; have hcz_1 : w1.cell? ⟨gl, 1, none⟩ = some (.int .i64 a0_1) := (blk_cell BL.out 1).trans rfl; have hcz_2 : w1.cell? ⟨gl, 2, none⟩ = some (.int .i64 a0_2) := (blk_cell BL.out 2).trans rfl; have hcz_3 : w1.cell? ⟨gl, 3, none⟩ = some (.int .i64 a0_3) := (blk_cell BL.out 3).trans rfl; have hcz_4 : w1.cell? ⟨gl, 4, none⟩ = some (.int .i64 a0_4) := (blk_cell BL.out 4).trans rfl; have hcz_5 : w1.cell? ⟨gl, 5, none⟩ = some (.int .i64 a0_5) := (blk_cell BL.out 5).trans rfl; have hcz_6 : w1.cell? ⟨gl, 6, none⟩ = some (.string a0_6) := (blk_cell BL.out 6).trans rfl; have hcz_7 : w1.cell? ⟨gl, 7, none⟩ = some (.slice A0_7 l0_7.length c0_7) := (blk_cell BL.out 7).trans rfl; have hcz_8 : w1.cell? ⟨gl, 8, none⟩ = some (.slice A0_8 l0_8.length c0_8) := (blk_cell BL.out 8).trans rfl) | (go_at_call 23; refine (letter_Check.calls a0_0 a0_1 a0_2 a0_3 a0_4 a0_5 a0_6 _ _ l0_7 _ _ l0_8 _ _ (Kd.C_below HR7.out HB.out) HC7.out (Kd.C_below HR8.out HB.out) HC8.out A2.out).mono ?_; rintro e w2 ⟨rfl, hb⟩; have HB2 := Aside0.mk (below_step HB.out hb); have BL2 := Aside0.mk (blk_below BL.out hb); clear hb))
   clear hcz_0 hcz_1 hcz_2 hcz_3 hcz_4 hcz_5 hcz_6 hcz_7 hcz_8 HB BL
   have HB := Aside0.mk (below_drew HB2.out)
   have HL := Aside0.mk (blk_drew BL2.out)
   go_cut [5] from 9 (fun v5 wc => ∃ (gp : Nat) (vN vT : Value), v5 = .pointer (some ⟨gp, 0, none⟩) ∧ Aside0 (PE w wc gl #[.int .i64 a0_0, .int .i64 a0_1, .int .i64 a0_2, .int .i64 a0_3, .int .i64 a0_4, .int .i64 a0_5, .string a0_6, .slice A0_7 l0_7.length c0_7, .slice A0_8 l0_8.length c0_8] gp [a0_0, a0_1, a0_2, a0_3, a0_4, a0_5, (l0_7.length : Int)] ([a0_6] ++ l0_7) vN vT))
   case first =>
    refine wp_region_noPanic ?_
    refine rt_begin (S := (fun W => W.heap[gl]? = some (Obj.cells #[.int .i64 a0_0, .int .i64 a0_1, .int .i64 a0_2, .int .i64 a0_3, .int .i64 a0_4, .int .i64 a0_5, .string a0_6, .slice A0_7 l0_7.length c0_7, .slice A0_8 l0_8.length c0_8] 32 (0, 0)))) (s := 24) (by kernel_rfl) ?_
    refine AnyT.taken (i := 0) (v := ?v1) rfl (by kernel_rfl) (by kernel_rfl) (by kernel_rfl) (by kernel_rfl) (fun _ _ _ h => h) (Or.inl ⟨by rfl, ?y1⟩) ?s1 ?_
    case y1 =>
     intro wSW hSW
     (obtain ⟨k0, k1, k2, k3, k4, k5, k6, k7⟩ := keep8 hSW; go_simp)
     all_goals with_reducible rfl
    case s1 => exact HL.out
    try simp only [Act.put, List.setIfInBounds_toArray, List.set_cons_zero, List.set_cons_succ]
    refine AnyT.taken (i := 1) (v := ?v2) rfl (by kernel_rfl) (by kernel_rfl) (by kernel_rfl) (by kernel_rfl) (fun _ _ _ h => h) (Or.inl ⟨by rfl, ?y2⟩) ?s2 ?_
    case y2 =>
     intro wSW hSW
     (obtain ⟨k0, k1, k2, k3, k4, k5, k6, k7⟩ := keep8 hSW; go_simp)
     all_goals with_reducible rfl
    case s2 => exact HL.out
    try simp only [Act.put, List.setIfInBounds_toArray, List.set_cons_zero, List.set_cons_succ]
    refine AnyT.taken (i := 2) (v := ?v3) rfl (by kernel_rfl) (by kernel_rfl) (by kernel_rfl) (by kernel_rfl) (fun _ _ _ h => h) (Or.inl ⟨by rfl, ?y3⟩) ?s3 ?_
    case y3 =>
     intro wSW hSW
     (obtain ⟨k0, k1, k2, k3, k4, k5, k6, k7⟩ := keep8 hSW; go_simp)
     all_goals with_reducible rfl
    case s3 => exact HL.out
    try simp only [Act.put, List.setIfInBounds_toArray, List.set_cons_zero, List.set_cons_succ]
    refine AnyT.taken (i := 3) (v := ?v4) rfl (by kernel_rfl) (by kernel_rfl) (by kernel_rfl) (by kernel_rfl) (fun _ _ _ h => h) (Or.inl ⟨by rfl, ?y4⟩) ?s4 ?_
    case y4 =>
     intro wSW hSW
     (obtain ⟨k0, k1, k2, k3, k4, k5, k6, k7⟩ := keep8 hSW; go_simp)
     all_goals with_reducible rfl
    case s4 => exact HL.out
    try simp only [Act.put, List.setIfInBounds_toArray, List.set_cons_zero, List.set_cons_succ]
    refine AnyT.taken (i := 4) (v := ?v5) rfl (by kernel_rfl) (by kernel_rfl) (by kernel_rfl) (by kernel_rfl) (fun _ _ _ h => h) (Or.inl ⟨by rfl, ?y5⟩) ?s5 ?_
    case y5 =>
     intro wSW hSW
     (obtain ⟨k0, k1, k2, k3, k4, k5, k6, k7⟩ := keep8 hSW; go_simp)
     all_goals with_reducible rfl
    case s5 => exact HL.out
    try simp only [Act.put, List.setIfInBounds_toArray, List.set_cons_zero, List.set_cons_succ]
    refine AnyT.taken (i := 5) (v := ?v6) rfl (by kernel_rfl) (by kernel_rfl) (by kernel_rfl) (by kernel_rfl) (fun _ _ _ h => h) (Or.inl ⟨by rfl, ?y6⟩) ?s6 ?_
    case y6 =>
     intro wSW hSW
     (obtain ⟨k0, k1, k2, k3, k4, k5, k6, k7⟩ := keep8 hSW; go_simp)
     all_goals with_reducible rfl
    case s6 => exact HL.out
    try simp only [Act.put, List.setIfInBounds_toArray, List.set_cons_zero, List.set_cons_succ]
    refine AnyT.taken (i := 6) (v := ?v7) rfl (by kernel_rfl) (by kernel_rfl) (by kernel_rfl) (by kernel_rfl) (fun _ _ _ h => h) (Or.inl ⟨by rfl, ?y7⟩) ?s7 ?_
    case y7 =>
     intro wSW hSW
     (obtain ⟨k0, k1, k2, k3, k4, k5, k6, k7⟩ := keep8 hSW; go_simp)
     all_goals with_reducible rfl
    case s7 => exact HL.out
    try simp only [Act.put, List.setIfInBounds_toArray, List.set_cons_zero, List.set_cons_succ]
    refine AnyT.taken (i := 7) (v := ?v8) rfl (by kernel_rfl) (by kernel_rfl) (by kernel_rfl) (by kernel_rfl) (fun _ _ _ h => h) (Or.inl ⟨by rfl, ?y8⟩) ?s8 ?_
    case y8 =>
     intro wSW hSW
     (obtain ⟨k0, k1, k2, k3, k4, k5, k6, k7⟩ := keep8 hSW; go_simp)
     all_goals with_reducible rfl
    case s8 => exact HL.out
    try simp only [Act.put, List.setIfInBounds_toArray, List.set_cons_zero, List.set_cons_succ]
    refine AnyT.taken (i := 8) (v := ?v9) rfl (by kernel_rfl) (by kernel_rfl) (by kernel_rfl) (by kernel_rfl) (fun _ _ _ h => h) (Or.inl ⟨by rfl, ?y9⟩) ?s9 ?_
    case y9 =>
     intro wSW hSW
     (obtain ⟨k0, k1, k2, k3, k4, k5, k6, k7⟩ := keep8 hSW; go_simp)
     all_goals with_reducible rfl
    case s9 => exact HL.out
    try simp only [Act.put, List.setIfInBounds_toArray, List.set_cons_zero, List.set_cons_succ]
    refine AnyT.taken (i := 9) (v := ?v10) rfl (by kernel_rfl) (by kernel_rfl) (by kernel_rfl) (by kernel_rfl) (fun _ _ _ h => h) (Or.inl ⟨by rfl, ?y10⟩) ?s10 ?_
    case y10 =>
     intro wSW hSW
     (obtain ⟨k0, k1, k2, k3, k4, k5, k6, k7⟩ := keep8 hSW; go_simp)
     all_goals with_reducible rfl
    case s10 => exact HL.out
    try simp only [Act.put, List.setIfInBounds_toArray, List.set_cons_zero, List.set_cons_succ]
    refine AnyT.taken (i := 10) (v := ?v11) rfl (by kernel_rfl) (by kernel_rfl) (by kernel_rfl) (by kernel_rfl) (fun _ _ _ h => h) (Or.inl ⟨by rfl, ?y11⟩) ?s11 ?_
    case y11 =>
     intro wSW hSW
     (obtain ⟨k0, k1, k2, k3, k4, k5, k6, k7⟩ := keep8 hSW; go_simp)
     all_goals with_reducible rfl
    case s11 => exact HL.out
    try simp only [Act.put, List.setIfInBounds_toArray, List.set_cons_zero, List.set_cons_succ]
    refine AnyT.taken (i := 11) (v := ?v12) rfl (by kernel_rfl) (by kernel_rfl) (by kernel_rfl) (by kernel_rfl) (fun _ _ _ h => h) (Or.inl ⟨by rfl, ?y12⟩) ?s12 ?_
    case y12 =>
     intro wSW hSW
     (obtain ⟨k0, k1, k2, k3, k4, k5, k6, k7⟩ := keep8 hSW; go_simp)
     all_goals with_reducible rfl
    case s12 => exact HL.out
    try simp only [Act.put, List.setIfInBounds_toArray, List.set_cons_zero, List.set_cons_succ]
    refine AnyT.taken (i := 12) (v := ?v13) rfl (by kernel_rfl) (by kernel_rfl) (by kernel_rfl) (by kernel_rfl) (fun _ _ _ h => h) (Or.inl ⟨by rfl, ?y13⟩) ?s13 ?_
    case y13 =>
     intro wSW hSW
     (obtain ⟨k0, k1, k2, k3, k4, k5, k6, k7⟩ := keep8 hSW; go_simp)
     all_goals with_reducible rfl
    case s13 => exact HL.out
    try simp only [Act.put, List.setIfInBounds_toArray, List.set_cons_zero, List.set_cons_succ]
    refine AnyT.taken (i := 13) (v := ?v14) rfl (by kernel_rfl) (by kernel_rfl) (by kernel_rfl) (by kernel_rfl) (fun _ _ _ h => h) (Or.inl ⟨by rfl, ?y14⟩) ?s14 ?_
    case y14 =>
     intro wSW hSW
     (obtain ⟨k0, k1, k2, k3, k4, k5, k6, k7⟩ := keep8 hSW; go_simp)
     all_goals with_reducible rfl
    case s14 => exact HL.out
    try simp only [Act.put, List.setIfInBounds_toArray, List.set_cons_zero, List.set_cons_succ]
    refine AnyT.taken (i := 14) (v := ?v15) rfl (by kernel_rfl) (by kernel_rfl) (by kernel_rfl) (by kernel_rfl) (fun _ _ _ h => h) (Or.inl ⟨by rfl, ?y15⟩) ?s15 ?_
    case y15 =>
     intro wSW hSW
     (obtain ⟨k0, k1, k2, k3, k4, k5, k6, k7⟩ := keep8 hSW; go_simp)
     all_goals with_reducible rfl
    case s15 => exact HL.out
    try simp only [Act.put, List.setIfInBounds_toArray, List.set_cons_zero, List.set_cons_succ]
    refine AnyT.taken (i := 16) (v := ?v16) rfl (by kernel_rfl) (by kernel_rfl) (by kernel_rfl) (by kernel_rfl) (fun _ _ _ h => h) (Or.inl ⟨by rfl, ?y16⟩) ?s16 ?_
    case y16 =>
     intro wSW hSW
     (obtain ⟨k0, k1, k2, k3, k4, k5, k6, k7⟩ := keep8 hSW; go_simp)
     all_goals with_reducible rfl
    case s16 => exact HL.out
    try simp only [Act.put, List.setIfInBounds_toArray, List.set_cons_zero, List.set_cons_succ]
    refine AnyT.taken (i := 17) (v := ?v17) rfl (by kernel_rfl) (by kernel_rfl) (by kernel_rfl) (by kernel_rfl) (fun _ _ _ h => h) (Or.inl ⟨by rfl, ?y17⟩) ?s17 ?_
    case y17 =>
     intro wSW hSW
     (obtain ⟨k0, k1, k2, k3, k4, k5, k6, k7⟩ := keep8 hSW; go_simp)
     all_goals with_reducible rfl
    case s17 => exact HL.out
    try simp only [Act.put, List.setIfInBounds_toArray, List.set_cons_zero, List.set_cons_succ]
    refine AnyT.taken (i := 19) (v := ?v18) rfl (by kernel_rfl) (by kernel_rfl) (by kernel_rfl) (by kernel_rfl) (fun _ _ _ h => h) (Or.inl ⟨by rfl, ?y18⟩) ?s18 ?_
    case y18 =>
     intro wSW hSW
     (obtain ⟨k0, k1, k2, k3, k4, k5, k6, k7⟩ := keep8 hSW; go_simp)
     all_goals with_reducible rfl
    case s18 => exact HL.out
    try simp only [Act.put, List.setIfInBounds_toArray, List.set_cons_zero, List.set_cons_succ]
    refine AnyT.taken (i := 20) (v := ?v19) rfl (by kernel_rfl) (by kernel_rfl) (by kernel_rfl) (by kernel_rfl) (fun _ _ _ h => h) (Or.inl ⟨by rfl, ?y19⟩) ?s19 ?_
    case y19 =>
     intro wSW hSW
     (obtain ⟨k0, k1, k2, k3, k4, k5, k6, k7⟩ := keep8 hSW; go_simp)
     all_goals with_reducible rfl
    case s19 => exact HL.out
    try simp only [Act.put, List.setIfInBounds_toArray, List.set_cons_zero, List.set_cons_succ]
    refine AnyT.ready (rs := [15, 18, 23]) (by kernel_rfl) (by simp) (AllT.step rfl (fun K hK => ?b2015) (AllT.step rfl (fun K hK => ?b2018) (AllT.step rfl (fun K hK => ?b2023) AllT.nil)))
    case b2015 =>
     (refine Kd.R_lit_step (Kd.int .i64) (w0 := w) w.heap.size 3 (by rfl) (N := 29) (by rfl) (xs := [a0_0, a0_1, a0_2, a0_3, a0_4, a0_5, (l0_7.length : Int)]) (inner := [.int .i64 a0_0, .int .i64 a0_1, .int .i64 a0_2, .int .i64 a0_3, .int .i64 a0_4, .int .i64 a0_5, .int .i64 (l0_7.length : Int)]) (ok := fun _ => True) (okp := fun _ => True) ?hr (reps_ints _ _ _ [a0_0, a0_1, a0_2, a0_3, a0_4, a0_5, (l0_7.length : Int)]) (fun _ h => h) trivial HB.out HB.out.size (by simp) ?_; (case hr => first | (go_simp; done) | (go_simp; rfl)); intro vx w9 ho hb hg hat; (try replace FN := Aside0.mk (Kd.R_grown FN.out hg (fun _ _ => by simp))); (try replace FT := Aside0.mk (Kd.R_grown FT.out hg (fun _ _ => by simp))); (try replace FZ := Aside0.mk (blk_grown FZ.out hg (by simp))); replace HL := Aside0.mk (blk_grown HL.out hg (by simp)); replace HB := Aside0.mk hb; obtain ⟨A29, c29, e9⟩ := Kd.R_slice ho; subst e9; have FN := Aside0.mk ho; clear ho hb hg hat)
     refine hK.out _ _ ?_ ?_
     ·intro _; exact HL.out
     clear hK K
     try simp only [Act.put, List.setIfInBounds_toArray, List.set_cons_zero, List.set_cons_succ]
     refine AnyT.ready (rs := [18, 23]) (by kernel_rfl) (by simp) (AllT.step rfl (fun K hK => ?b2218) (AllT.step rfl (fun K hK => ?b2223) AllT.nil))
     case b2218 =>
      (refine Kd.R_lit_step Kd.string (w0 := w) w.heap.size 9 (by rfl) (N := 32) (by rfl) (xs := [a0_6]) (inner := [.string a0_6]) (ok := fun _ => True) (okp := fun _ => True) ?hr (reps_texts _ _ _ [a0_6]) (fun _ h => h) trivial HB.out HB.out.size (by simp) ?_; (case hr => first | (go_simp; done) | (go_simp; rfl)); intro vx w9 ho hb hg hat; (try replace FN := Aside0.mk (Kd.R_grown FN.out hg (fun _ _ => by simp))); (try replace FT := Aside0.mk (Kd.R_grown FT.out hg (fun _ _ => by simp))); (try replace FZ := Aside0.mk (blk_grown FZ.out hg (by simp))); replace HL := Aside0.mk (blk_grown HL.out hg (by simp)); replace HB := Aside0.mk hb; obtain ⟨A32, c32, e9⟩ := Kd.R_slice ho; subst e9; have FT := Aside0.mk ho; clear ho hb hg hat)
      refine hK.out _ _ ?_ ?_
      ·intro _; exact HL.out
      clear hK K
      try simp only [Act.put, List.setIfInBounds_toArray, List.set_cons_zero, List.set_cons_succ]
      refine AnyT.ready (rs := [21, 23]) (by kernel_rfl) (by simp) (AllT.step rfl (fun K hK => ?b2421) (AllT.step rfl (fun K hK => ?b2423) AllT.nil))
      case b2421 =>
       (refine Kd.R_append_rows_step Kd.string (w0 := w) w.heap.size (by rfl) (.tmp 32) (.tmp 34) 29 9 (.string ⟨#[]⟩) 16 (by rfl) Try.underlying29 info9 rfl (by decide) (by omega) (.slice A32 1 c32) [a0_6] l0_7 _ _ _ (fun _ => True) (fun _ => False) (by rfl) (by rfl) FT.out (Kd.C_below HR7.out HB.out) (fun _ _ h => h) (fun _ h => h.elim) (fun _ _ => trivial) HB.out HB.out.size (by simp only [List.length_cons, List.length_nil]; omega) ?_; intro vx w9 ho hb hg hat; (try replace FN := Aside0.mk (Kd.R_over FN.out FT.out (by decide) hg)); (try replace FZ := Aside0.mk (blk_grown FZ.out hg (Kd.R_ne FT.out FZ.out (by decide)))); replace HL := Aside0.mk (blk_grown HL.out hg (Kd.R_ne FT.out HL.out (by decide))); replace HB := Aside0.mk hb; obtain ⟨A35, c35, e9⟩ := Kd.R_slice ho; subst e9; replace FT := Aside0.mk ho; clear ho hb hg hat)
       refine hK.out _ _ ?_ ?_
       ·intro _; exact HL.out
       clear hK K
       try simp only [Act.put, List.setIfInBounds_toArray, List.set_cons_zero, List.set_cons_succ]
       refine AnyT.taken (i := 22) (v := ?v26) rfl (by kernel_rfl) (by kernel_rfl) (by kernel_rfl) (by kernel_rfl) (fun _ _ _ h => h) (Or.inl ⟨by rfl, ?y26⟩) ?s26 ?_
       case y26 =>
        intro wSW hSW
        (obtain ⟨k0, k1, k2, k3, k4, k5, k6, k7⟩ := keep8 hSW; go_simp)
        all_goals with_reducible rfl
       case s26 => exact HL.out
       try simp only [Act.put, List.setIfInBounds_toArray, List.set_cons_zero, List.set_cons_succ]
       refine AnyT.ready (rs := [23]) (by kernel_rfl) (by simp) (AllT.step rfl (fun K hK => ?b2723) AllT.nil)
       case b2723 =>
        (refine step_alloc (ob := .cells #[.slice none 0 0, .slice none 0 0] 70) (by rfl) ?hr ?_; (case hr => first | (go_simp; done) | (go_simp; rfl)); intro w9 gz hq hge hb; have FG : Aside0 (w.heap.size ≤ gz) := ⟨Nat.le_trans HB.out.size hge⟩; (try replace FN := Aside0.mk (Kd.R_below FN.out hb)); (try replace FT := Aside0.mk (Kd.R_below FT.out hb)); (try replace FZ := Aside0.mk (blk_below FZ.out hb)); replace HL := Aside0.mk (blk_below HL.out hb); replace HB := Aside0.mk (below_step HB.out hb); have FZ := Aside0.mk hq; clear hq hge hb)
        refine hK.out _ _ ?_ ?_
        ·intro _; exact HL.out
        clear hK K
        try simp only [Act.put, List.setIfInBounds_toArray, List.set_cons_zero, List.set_cons_succ]
        refine AnyT.ready (rs := [24]) (by kernel_rfl) (by simp) (AllT.step rfl (fun K hK => ?b2924) AllT.nil)
        case b2924 =>
         (have hs0 := (blk_cell FZ.out 0).trans rfl; have hs1 := (blk_cell FZ.out 1).trans rfl; have hf0 := blk_frozen FZ.out 0; have hf1 := blk_frozen FZ.out 1; go_simp)
         refine hK.out _ _ ?_ ?_
         ·exact past (by kernel_rfl)
         clear hK K
         try simp only [Act.put, List.setIfInBounds_toArray, List.set_cons_zero, List.set_cons_succ]
         refine AnyT.done (by kernel_rfl) ?_ _
         refine NoPanic.normal ?_
         (go_wp2; go_meet)
         (case rel => exact ⟨gz, .slice A29 7 c29, .slice A35 (l0_7.length + 1) c35, rfl, ⟨PE.of (vN' := .slice none 0 0) (vT' := .slice none 0 0) HL.out HB.out FN.out FT.out FZ.out FG.out⟩⟩)
      case b2423 =>
       (refine step_alloc (ob := .cells #[.slice none 0 0, .slice none 0 0] 70) (by rfl) ?hr ?_; (case hr => first | (go_simp; done) | (go_simp; rfl)); intro w9 gz hq hge hb; have FG : Aside0 (w.heap.size ≤ gz) := ⟨Nat.le_trans HB.out.size hge⟩; (try replace FN := Aside0.mk (Kd.R_below FN.out hb)); (try replace FT := Aside0.mk (Kd.R_below FT.out hb)); (try replace FZ := Aside0.mk (blk_below FZ.out hb)); replace HL := Aside0.mk (blk_below HL.out hb); replace HB := Aside0.mk (below_step HB.out hb); have FZ := Aside0.mk hq; clear hq hge hb)
       refine hK.out _ _ ?_ ?_
       ·intro _; exact HL.out
       clear hK K
       try simp only [Act.put, List.setIfInBounds_toArray, List.set_cons_zero, List.set_cons_succ]
       refine AnyT.ready (rs := [21]) (by kernel_rfl) (by simp) (AllT.step rfl (fun K hK => ?b3321) AllT.nil)
       case b3321 =>
        (refine Kd.R_append_rows_step Kd.string (w0 := w) w.heap.size (by rfl) (.tmp 32) (.tmp 34) 29 9 (.string ⟨#[]⟩) 16 (by rfl) Try.underlying29 info9 rfl (by decide) (by omega) (.slice A32 1 c32) [a0_6] l0_7 _ _ _ (fun _ => True) (fun _ => False) (by rfl) (by rfl) FT.out (Kd.C_below HR7.out HB.out) (fun _ _ h => h) (fun _ h => h.elim) (fun _ _ => trivial) HB.out HB.out.size (by simp only [List.length_cons, List.length_nil]; omega) ?_; intro vx w9 ho hb hg hat; (try replace FN := Aside0.mk (Kd.R_over FN.out FT.out (by decide) hg)); (try replace FZ := Aside0.mk (blk_grown FZ.out hg (Kd.R_ne FT.out FZ.out (by decide)))); replace HL := Aside0.mk (blk_grown HL.out hg (Kd.R_ne FT.out HL.out (by decide))); replace HB := Aside0.mk hb; obtain ⟨A35, c35, e9⟩ := Kd.R_slice ho; subst e9; replace FT := Aside0.mk ho; clear ho hb hg hat)
        refine hK.out _ _ ?_ ?_
        ·intro _; exact HL.out
        clear hK K
        try simp only [Act.put, List.setIfInBounds_toArray, List.set_cons_zero, List.set_cons_succ]
        refine AnyT.taken (i := 22) (v := ?v35) rfl (by kernel_rfl) (by kernel_rfl) (by kernel_rfl) (by kernel_rfl) (fun _ _ _ h => h) (Or.inl ⟨by rfl, ?y35⟩) ?s35 ?_
        case y35 =>
         intro wSW hSW
         (obtain ⟨k0, k1, k2, k3, k4, k5, k6, k7⟩ := keep8 hSW; go_simp)
         all_goals with_reducible rfl
        case s35 => exact HL.out
        try simp only [Act.put, List.setIfInBounds_toArray, List.set_cons_zero, List.set_cons_succ]
        refine AnyT.ready (rs := [24]) (by kernel_rfl) (by simp) (AllT.step rfl (fun K hK => ?b3624) AllT.nil)
        case b3624 =>
         (have hs0 := (blk_cell FZ.out 0).trans rfl; have hs1 := (blk_cell FZ.out 1).trans rfl; have hf0 := blk_frozen FZ.out 0; have hf1 := blk_frozen FZ.out 1; go_simp)
         refine hK.out _ _ ?_ ?_
         ·exact past (by kernel_rfl)
         clear hK K
         try simp only [Act.put, List.setIfInBounds_toArray, List.set_cons_zero, List.set_cons_succ]
         refine AnyT.done (by kernel_rfl) ?_ _
         refine NoPanic.normal ?_
         (go_wp2; go_meet)
         (case rel => exact ⟨gz, .slice A29 7 c29, .slice A35 (l0_7.length + 1) c35, rfl, ⟨PE.of (vN' := .slice none 0 0) (vT' := .slice none 0 0) HL.out HB.out FN.out FT.out FZ.out FG.out⟩⟩)
     case b2223 =>
      (refine step_alloc (ob := .cells #[.slice none 0 0, .slice none 0 0] 70) (by rfl) ?hr ?_; (case hr => first | (go_simp; done) | (go_simp; rfl)); intro w9 gz hq hge hb; have FG : Aside0 (w.heap.size ≤ gz) := ⟨Nat.le_trans HB.out.size hge⟩; (try replace FN := Aside0.mk (Kd.R_below FN.out hb)); (try replace FT := Aside0.mk (Kd.R_below FT.out hb)); (try replace FZ := Aside0.mk (blk_below FZ.out hb)); replace HL := Aside0.mk (blk_below HL.out hb); replace HB := Aside0.mk (below_step HB.out hb); have FZ := Aside0.mk hq; clear hq hge hb)
      refine hK.out _ _ ?_ ?_
      ·intro _; exact HL.out
      clear hK K
      try simp only [Act.put, List.setIfInBounds_toArray, List.set_cons_zero, List.set_cons_succ]
      refine AnyT.ready (rs := [18]) (by kernel_rfl) (by simp) (AllT.step rfl (fun K hK => ?b4018) AllT.nil)
      case b4018 =>
       (refine Kd.R_lit_step Kd.string (w0 := w) w.heap.size 9 (by rfl) (N := 32) (by rfl) (xs := [a0_6]) (inner := [.string a0_6]) (ok := fun _ => True) (okp := fun _ => True) ?hr (reps_texts _ _ _ [a0_6]) (fun _ h => h) trivial HB.out HB.out.size (by simp) ?_; (case hr => first | (go_simp; done) | (go_simp; rfl)); intro vx w9 ho hb hg hat; (try replace FN := Aside0.mk (Kd.R_grown FN.out hg (fun _ _ => by simp))); (try replace FT := Aside0.mk (Kd.R_grown FT.out hg (fun _ _ => by simp))); (try replace FZ := Aside0.mk (blk_grown FZ.out hg (by simp))); replace HL := Aside0.mk (blk_grown HL.out hg (by simp)); replace HB := Aside0.mk hb; obtain ⟨A32, c32, e9⟩ := Kd.R_slice ho; subst e9; have FT := Aside0.mk ho; clear ho hb hg hat)
       refine hK.out _ _ ?_ ?_
       ·intro _; exact HL.out
       clear hK K
       try simp only [Act.put, List.setIfInBounds_toArray, List.set_cons_zero, List.set_cons_succ]
       refine AnyT.ready (rs := [21]) (by kernel_rfl) (by simp) (AllT.step rfl (fun K hK => ?b4221) AllT.nil)
       case b4221 =>
        (refine Kd.R_append_rows_step Kd.string (w0 := w) w.heap.size (by rfl) (.tmp 32) (.tmp 34) 29 9 (.string ⟨#[]⟩) 16 (by rfl) Try.underlying29 info9 rfl (by decide) (by omega) (.slice A32 1 c32) [a0_6] l0_7 _ _ _ (fun _ => True) (fun _ => False) (by rfl) (by rfl) FT.out (Kd.C_below HR7.out HB.out) (fun _ _ h => h) (fun _ h => h.elim) (fun _ _ => trivial) HB.out HB.out.size (by simp only [List.length_cons, List.length_nil]; omega) ?_; intro vx w9 ho hb hg hat; (try replace FN := Aside0.mk (Kd.R_over FN.out FT.out (by decide) hg)); (try replace FZ := Aside0.mk (blk_grown FZ.out hg (Kd.R_ne FT.out FZ.out (by decide)))); replace HL := Aside0.mk (blk_grown HL.out hg (Kd.R_ne FT.out HL.out (by decide))); replace HB := Aside0.mk hb; obtain ⟨A35, c35, e9⟩ := Kd.R_slice ho; subst e9; replace FT := Aside0.mk ho; clear ho hb hg hat)
        refine hK.out _ _ ?_ ?_
        ·intro _; exact HL.out
        clear hK K
        try simp only [Act.put, List.setIfInBounds_toArray, List.set_cons_zero, List.set_cons_succ]
        refine AnyT.taken (i := 22) (v := ?v44) rfl (by kernel_rfl) (by kernel_rfl) (by kernel_rfl) (by kernel_rfl) (fun _ _ _ h => h) (Or.inl ⟨by rfl, ?y44⟩) ?s44 ?_
        case y44 =>
         intro wSW hSW
         (obtain ⟨k0, k1, k2, k3, k4, k5, k6, k7⟩ := keep8 hSW; go_simp)
         all_goals with_reducible rfl
        case s44 => exact HL.out
        try simp only [Act.put, List.setIfInBounds_toArray, List.set_cons_zero, List.set_cons_succ]
        refine AnyT.ready (rs := [24]) (by kernel_rfl) (by simp) (AllT.step rfl (fun K hK => ?b4524) AllT.nil)
        case b4524 =>
         (have hs0 := (blk_cell FZ.out 0).trans rfl; have hs1 := (blk_cell FZ.out 1).trans rfl; have hf0 := blk_frozen FZ.out 0; have hf1 := blk_frozen FZ.out 1; go_simp)
         refine hK.out _ _ ?_ ?_
         ·exact past (by kernel_rfl)
         clear hK K
         try simp only [Act.put, List.setIfInBounds_toArray, List.set_cons_zero, List.set_cons_succ]
         refine AnyT.done (by kernel_rfl) ?_ _
         refine NoPanic.normal ?_
         (go_wp2; go_meet)
         (case rel => exact ⟨gz, .slice A29 7 c29, .slice A35 (l0_7.length + 1) c35, rfl, ⟨PE.of (vN' := .slice none 0 0) (vT' := .slice none 0 0) HL.out HB.out FN.out FT.out FZ.out FG.out⟩⟩)
    case b2018 =>
     (refine Kd.R_lit_step Kd.string (w0 := w) w.heap.size 9 (by rfl) (N := 32) (by rfl) (xs := [a0_6]) (inner := [.string a0_6]) (ok := fun _ => True) (okp := fun _ => True) ?hr (reps_texts _ _ _ [a0_6]) (fun _ h => h) trivial HB.out HB.out.size (by simp) ?_; (case hr => first | (go_simp; done) | (go_simp; rfl)); intro vx w9 ho hb hg hat; (try replace FN := Aside0.mk (Kd.R_grown FN.out hg (fun _ _ => by simp))); (try replace FT := Aside0.mk (Kd.R_grown FT.out hg (fun _ _ => by simp))); (try replace FZ := Aside0.mk (blk_grown FZ.out hg (by simp))); replace HL := Aside0.mk (blk_grown HL.out hg (by simp)); replace HB := Aside0.mk hb; obtain ⟨A32, c32, e9⟩ := Kd.R_slice ho; subst e9; have FT := Aside0.mk ho; clear ho hb hg hat)
     refine hK.out _ _ ?_ ?_
     ·intro _; exact HL.out
     clear hK K
     try simp only [Act.put, List.setIfInBounds_toArray, List.set_cons_zero, List.set_cons_succ]
     refine AnyT.ready (rs := [15, 21, 23]) (by kernel_rfl) (by simp) (AllT.step rfl (fun K hK => ?b4915) (AllT.step rfl (fun K hK => ?b4921) (AllT.step rfl (fun K hK => ?b4923) AllT.nil)))
     case b4915 =>
      (refine Kd.R_lit_step (Kd.int .i64) (w0 := w) w.heap.size 3 (by rfl) (N := 29) (by rfl) (xs := [a0_0, a0_1, a0_2, a0_3, a0_4, a0_5, (l0_7.length : Int)]) (inner := [.int .i64 a0_0, .int .i64 a0_1, .int .i64 a0_2, .int .i64 a0_3, .int .i64 a0_4, .int .i64 a0_5, .int .i64 (l0_7.length : Int)]) (ok := fun _ => True) (okp := fun _ => True) ?hr (reps_ints _ _ _ [a0_0, a0_1, a0_2, a0_3, a0_4, a0_5, (l0_7.length : Int)]) (fun _ h => h) trivial HB.out HB.out.size (by simp) ?_; (case hr => first | (go_simp; done) | (go_simp; rfl)); intro vx w9 ho hb hg hat; (try replace FN := Aside0.mk (Kd.R_grown FN.out hg (fun _ _ => by simp))); (try replace FT := Aside0.mk (Kd.R_grown FT.out hg (fun _ _ => by simp))); (try replace FZ := Aside0.mk (blk_grown FZ.out hg (by simp))); replace HL := Aside0.mk (blk_grown HL.out hg (by simp)); replace HB := Aside0.mk hb; obtain ⟨A29, c29, e9⟩ := Kd.R_slice ho; subst e9; have FN := Aside0.mk ho; clear ho hb hg hat)
      refine hK.out _ _ ?_ ?_
      ·intro _; exact HL.out
      clear hK K
      try simp only [Act.put, List.setIfInBounds_toArray, List.set_cons_zero, List.set_cons_succ]
      refine AnyT.ready (rs := [21, 23]) (by kernel_rfl) (by simp) (AllT.step rfl (fun K hK => ?b5121) (AllT.step rfl (fun K hK => ?b5123) AllT.nil))
      case b5121 =>
       (refine Kd.R_append_rows_step Kd.string (w0 := w) w.heap.size (by rfl) (.tmp 32) (.tmp 34) 29 9 (.string ⟨#[]⟩) 16 (by rfl) Try.underlying29 info9 rfl (by decide) (by omega) (.slice A32 1 c32) [a0_6] l0_7 _ _ _ (fun _ => True) (fun _ => False) (by rfl) (by rfl) FT.out (Kd.C_below HR7.out HB.out) (fun _ _ h => h) (fun _ h => h.elim) (fun _ _ => trivial) HB.out HB.out.size (by simp only [List.length_cons, List.length_nil]; omega) ?_; intro vx w9 ho hb hg hat; (try replace FN := Aside0.mk (Kd.R_over FN.out FT.out (by decide) hg)); (try replace FZ := Aside0.mk (blk_grown FZ.out hg (Kd.R_ne FT.out FZ.out (by decide)))); replace HL := Aside0.mk (blk_grown HL.out hg (Kd.R_ne FT.out HL.out (by decide))); replace HB := Aside0.mk hb; obtain ⟨A35, c35, e9⟩ := Kd.R_slice ho; subst e9; replace FT := Aside0.mk ho; clear ho hb hg hat)
       refine hK.out _ _ ?_ ?_
       ·intro _; exact HL.out
       clear hK K
       try simp only [Act.put, List.setIfInBounds_toArray, List.set_cons_zero, List.set_cons_succ]
       refine AnyT.taken (i := 22) (v := ?v53) rfl (by kernel_rfl) (by kernel_rfl) (by kernel_rfl) (by kernel_rfl) (fun _ _ _ h => h) (Or.inl ⟨by rfl, ?y53⟩) ?s53 ?_
       case y53 =>
        intro wSW hSW
        (obtain ⟨k0, k1, k2, k3, k4, k5, k6, k7⟩ := keep8 hSW; go_simp)
        all_goals with_reducible rfl
       case s53 => exact HL.out
       try simp only [Act.put, List.setIfInBounds_toArray, List.set_cons_zero, List.set_cons_succ]
       refine AnyT.ready (rs := [23]) (by kernel_rfl) (by simp) (AllT.step rfl (fun K hK => ?b5423) AllT.nil)
       case b5423 =>
        (refine step_alloc (ob := .cells #[.slice none 0 0, .slice none 0 0] 70) (by rfl) ?hr ?_; (case hr => first | (go_simp; done) | (go_simp; rfl)); intro w9 gz hq hge hb; have FG : Aside0 (w.heap.size ≤ gz) := ⟨Nat.le_trans HB.out.size hge⟩; (try replace FN := Aside0.mk (Kd.R_below FN.out hb)); (try replace FT := Aside0.mk (Kd.R_below FT.out hb)); (try replace FZ := Aside0.mk (blk_below FZ.out hb)); replace HL := Aside0.mk (blk_below HL.out hb); replace HB := Aside0.mk (below_step HB.out hb); have FZ := Aside0.mk hq; clear hq hge hb)
        refine hK.out _ _ ?_ ?_
        ·intro _; exact HL.out
        clear hK K
        try simp only [Act.put, List.setIfInBounds_toArray, List.set_cons_zero, List.set_cons_succ]
        refine AnyT.ready (rs := [24]) (by kernel_rfl) (by simp) (AllT.step rfl (fun K hK => ?b5624) AllT.nil)
        case b5624 =>
         (have hs0 := (blk_cell FZ.out 0).trans rfl; have hs1 := (blk_cell FZ.out 1).trans rfl; have hf0 := blk_frozen FZ.out 0; have hf1 := blk_frozen FZ.out 1; go_simp)
         refine hK.out _ _ ?_ ?_
         ·exact past (by kernel_rfl)
         clear hK K
         try simp only [Act.put, List.setIfInBounds_toArray, List.set_cons_zero, List.set_cons_succ]
         refine AnyT.done (by kernel_rfl) ?_ _
         refine NoPanic.normal ?_
         (go_wp2; go_meet)
         (case rel => exact ⟨gz, .slice A29 7 c29, .slice A35 (l0_7.length + 1) c35, rfl, ⟨PE.of (vN' := .slice none 0 0) (vT' := .slice none 0 0) HL.out HB.out FN.out FT.out FZ.out FG.out⟩⟩)
      case b5123 =>
       (refine step_alloc (ob := .cells #[.slice none 0 0, .slice none 0 0] 70) (by rfl) ?hr ?_; (case hr => first | (go_simp; done) | (go_simp; rfl)); intro w9 gz hq hge hb; have FG : Aside0 (w.heap.size ≤ gz) := ⟨Nat.le_trans HB.out.size hge⟩; (try replace FN := Aside0.mk (Kd.R_below FN.out hb)); (try replace FT := Aside0.mk (Kd.R_below FT.out hb)); (try replace FZ := Aside0.mk (blk_below FZ.out hb)); replace HL := Aside0.mk (blk_below HL.out hb); replace HB := Aside0.mk (below_step HB.out hb); have FZ := Aside0.mk hq; clear hq hge hb)
       refine hK.out _ _ ?_ ?_
       ·intro _; exact HL.out
       clear hK K
       try simp only [Act.put, List.setIfInBounds_toArray, List.set_cons_zero, List.set_cons_succ]
       refine AnyT.ready (rs := [21]) (by kernel_rfl) (by simp) (AllT.step rfl (fun K hK => ?b6021) AllT.nil)
       case b6021 =>
        (refine Kd.R_append_rows_step Kd.string (w0 := w) w.heap.size (by rfl) (.tmp 32) (.tmp 34) 29 9 (.string ⟨#[]⟩) 16 (by rfl) Try.underlying29 info9 rfl (by decide) (by omega) (.slice A32 1 c32) [a0_6] l0_7 _ _ _ (fun _ => True) (fun _ => False) (by rfl) (by rfl) FT.out (Kd.C_below HR7.out HB.out) (fun _ _ h => h) (fun _ h => h.elim) (fun _ _ => trivial) HB.out HB.out.size (by simp only [List.length_cons, List.length_nil]; omega) ?_; intro vx w9 ho hb hg hat; (try replace FN := Aside0.mk (Kd.R_over FN.out FT.out (by decide) hg)); (try replace FZ := Aside0.mk (blk_grown FZ.out hg (Kd.R_ne FT.out FZ.out (by decide)))); replace HL := Aside0.mk (blk_grown HL.out hg (Kd.R_ne FT.out HL.out (by decide))); replace HB := Aside0.mk hb; obtain ⟨A35, c35, e9⟩ := Kd.R_slice ho; subst e9; replace FT := Aside0.mk ho; clear ho hb hg hat)
        refine hK.out _ _ ?_ ?_
        ·intro _; exact HL.out
        clear hK K
        try simp only [Act.put, List.setIfInBounds_toArray, List.set_cons_zero, List.set_cons_succ]
        refine AnyT.taken (i := 22) (v := ?v62) rfl (by kernel_rfl) (by kernel_rfl) (by kernel_rfl) (by kernel_rfl) (fun _ _ _ h => h) (Or.inl ⟨by rfl, ?y62⟩) ?s62 ?_
        case y62 =>
         intro wSW hSW
         (obtain ⟨k0, k1, k2, k3, k4, k5, k6, k7⟩ := keep8 hSW; go_simp)
         all_goals with_reducible rfl
        case s62 => exact HL.out
        try simp only [Act.put, List.setIfInBounds_toArray, List.set_cons_zero, List.set_cons_succ]
        refine AnyT.ready (rs := [24]) (by kernel_rfl) (by simp) (AllT.step rfl (fun K hK => ?b6324) AllT.nil)
        case b6324 =>
         (have hs0 := (blk_cell FZ.out 0).trans rfl; have hs1 := (blk_cell FZ.out 1).trans rfl; have hf0 := blk_frozen FZ.out 0; have hf1 := blk_frozen FZ.out 1; go_simp)
         refine hK.out _ _ ?_ ?_
         ·exact past (by kernel_rfl)
         clear hK K
         try simp only [Act.put, List.setIfInBounds_toArray, List.set_cons_zero, List.set_cons_succ]
         refine AnyT.done (by kernel_rfl) ?_ _
         refine NoPanic.normal ?_
         (go_wp2; go_meet)
         (case rel => exact ⟨gz, .slice A29 7 c29, .slice A35 (l0_7.length + 1) c35, rfl, ⟨PE.of (vN' := .slice none 0 0) (vT' := .slice none 0 0) HL.out HB.out FN.out FT.out FZ.out FG.out⟩⟩)
     case b4921 =>
      (refine Kd.R_append_rows_step Kd.string (w0 := w) w.heap.size (by rfl) (.tmp 32) (.tmp 34) 29 9 (.string ⟨#[]⟩) 16 (by rfl) Try.underlying29 info9 rfl (by decide) (by omega) (.slice A32 1 c32) [a0_6] l0_7 _ _ _ (fun _ => True) (fun _ => False) (by rfl) (by rfl) FT.out (Kd.C_below HR7.out HB.out) (fun _ _ h => h) (fun _ h => h.elim) (fun _ _ => trivial) HB.out HB.out.size (by simp only [List.length_cons, List.length_nil]; omega) ?_; intro vx w9 ho hb hg hat; (try replace FN := Aside0.mk (Kd.R_over FN.out FT.out (by decide) hg)); (try replace FZ := Aside0.mk (blk_grown FZ.out hg (Kd.R_ne FT.out FZ.out (by decide)))); replace HL := Aside0.mk (blk_grown HL.out hg (Kd.R_ne FT.out HL.out (by decide))); replace HB := Aside0.mk hb; obtain ⟨A35, c35, e9⟩ := Kd.R_slice ho; subst e9; replace FT := Aside0.mk ho; clear ho hb hg hat)
      refine hK.out _ _ ?_ ?_
      ·intro _; exact HL.out
      clear hK K
      try simp only [Act.put, List.setIfInBounds_toArray, List.set_cons_zero, List.set_cons_succ]
      refine AnyT.ready (rs := [15, 23]) (by kernel_rfl) (by simp) (AllT.step rfl (fun K hK => ?b6715) (AllT.step rfl (fun K hK => ?b6723) AllT.nil))
      case b6715 =>
       (refine Kd.R_lit_step (Kd.int .i64) (w0 := w) w.heap.size 3 (by rfl) (N := 29) (by rfl) (xs := [a0_0, a0_1, a0_2, a0_3, a0_4, a0_5, (l0_7.length : Int)]) (inner := [.int .i64 a0_0, .int .i64 a0_1, .int .i64 a0_2, .int .i64 a0_3, .int .i64 a0_4, .int .i64 a0_5, .int .i64 (l0_7.length : Int)]) (ok := fun _ => True) (okp := fun _ => True) ?hr (reps_ints _ _ _ [a0_0, a0_1, a0_2, a0_3, a0_4, a0_5, (l0_7.length : Int)]) (fun _ h => h) trivial HB.out HB.out.size (by simp) ?_; (case hr => first | (go_simp; done) | (go_simp; rfl)); intro vx w9 ho hb hg hat; (try replace FN := Aside0.mk (Kd.R_grown FN.out hg (fun _ _ => by simp))); (try replace FT := Aside0.mk (Kd.R_grown FT.out hg (fun _ _ => by simp))); (try replace FZ := Aside0.mk (blk_grown FZ.out hg (by simp))); replace HL := Aside0.mk (blk_grown HL.out hg (by simp)); replace HB := Aside0.mk hb; obtain ⟨A29, c29, e9⟩ := Kd.R_slice ho; subst e9; have FN := Aside0.mk ho; clear ho hb hg hat)
       refine hK.out _ _ ?_ ?_
       ·intro _; exact HL.out
       clear hK K
       try simp only [Act.put, List.setIfInBounds_toArray, List.set_cons_zero, List.set_cons_succ]
       refine AnyT.taken (i := 22) (v := ?v69) rfl (by kernel_rfl) (by kernel_rfl) (by kernel_rfl) (by kernel_rfl) (fun _ _ _ h => h) (Or.inl ⟨by rfl, ?y69⟩) ?s69 ?_
       case y69 =>
        intro wSW hSW
        (obtain ⟨k0, k1, k2, k3, k4, k5, k6, k7⟩ := keep8 hSW; go_simp)
        all_goals with_reducible rfl
       case s69 => exact HL.out
       try simp only [Act.put, List.setIfInBounds_toArray, List.set_cons_zero, List.set_cons_succ]
       refine AnyT.ready (rs := [23]) (by kernel_rfl) (by simp) (AllT.step rfl (fun K hK => ?b7023) AllT.nil)
       case b7023 =>
        (refine step_alloc (ob := .cells #[.slice none 0 0, .slice none 0 0] 70) (by rfl) ?hr ?_; (case hr => first | (go_simp; done) | (go_simp; rfl)); intro w9 gz hq hge hb; have FG : Aside0 (w.heap.size ≤ gz) := ⟨Nat.le_trans HB.out.size hge⟩; (try replace FN := Aside0.mk (Kd.R_below FN.out hb)); (try replace FT := Aside0.mk (Kd.R_below FT.out hb)); (try replace FZ := Aside0.mk (blk_below FZ.out hb)); replace HL := Aside0.mk (blk_below HL.out hb); replace HB := Aside0.mk (below_step HB.out hb); have FZ := Aside0.mk hq; clear hq hge hb)
        refine hK.out _ _ ?_ ?_
        ·intro _; exact HL.out
        clear hK K
        try simp only [Act.put, List.setIfInBounds_toArray, List.set_cons_zero, List.set_cons_succ]
        refine AnyT.ready (rs := [24]) (by kernel_rfl) (by simp) (AllT.step rfl (fun K hK => ?b7224) AllT.nil)
        case b7224 =>
         (have hs0 := (blk_cell FZ.out 0).trans rfl; have hs1 := (blk_cell FZ.out 1).trans rfl; have hf0 := blk_frozen FZ.out 0; have hf1 := blk_frozen FZ.out 1; go_simp)
         refine hK.out _ _ ?_ ?_
         ·exact past (by kernel_rfl)
         clear hK K
         try simp only [Act.put, List.setIfInBounds_toArray, List.set_cons_zero, List.set_cons_succ]
         refine AnyT.done (by kernel_rfl) ?_ _
         refine NoPanic.normal ?_
         (go_wp2; go_meet)
         (case rel => exact ⟨gz, .slice A29 7 c29, .slice A35 (l0_7.length + 1) c35, rfl, ⟨PE.of (vN' := .slice none 0 0) (vT' := .slice none 0 0) HL.out HB.out FN.out FT.out FZ.out FG.out⟩⟩)
      case b6723 =>
       (refine step_alloc (ob := .cells #[.slice none 0 0, .slice none 0 0] 70) (by rfl) ?hr ?_; (case hr => first | (go_simp; done) | (go_simp; rfl)); intro w9 gz hq hge hb; have FG : Aside0 (w.heap.size ≤ gz) := ⟨Nat.le_trans HB.out.size hge⟩; (try replace FN := Aside0.mk (Kd.R_below FN.out hb)); (try replace FT := Aside0.mk (Kd.R_below FT.out hb)); (try replace FZ := Aside0.mk (blk_below FZ.out hb)); replace HL := Aside0.mk (blk_below HL.out hb); replace HB := Aside0.mk (below_step HB.out hb); have FZ := Aside0.mk hq; clear hq hge hb)
       refine hK.out _ _ ?_ ?_
       ·intro _; exact HL.out
       clear hK K
       try simp only [Act.put, List.setIfInBounds_toArray, List.set_cons_zero, List.set_cons_succ]
       refine AnyT.ready (rs := [15]) (by kernel_rfl) (by simp) (AllT.step rfl (fun K hK => ?b7615) AllT.nil)
       case b7615 =>
        (refine Kd.R_lit_step (Kd.int .i64) (w0 := w) w.heap.size 3 (by rfl) (N := 29) (by rfl) (xs := [a0_0, a0_1, a0_2, a0_3, a0_4, a0_5, (l0_7.length : Int)]) (inner := [.int .i64 a0_0, .int .i64 a0_1, .int .i64 a0_2, .int .i64 a0_3, .int .i64 a0_4, .int .i64 a0_5, .int .i64 (l0_7.length : Int)]) (ok := fun _ => True) (okp := fun _ => True) ?hr (reps_ints _ _ _ [a0_0, a0_1, a0_2, a0_3, a0_4, a0_5, (l0_7.length : Int)]) (fun _ h => h) trivial HB.out HB.out.size (by simp) ?_; (case hr => first | (go_simp; done) | (go_simp; rfl)); intro vx w9 ho hb hg hat; (try replace FN := Aside0.mk (Kd.R_grown FN.out hg (fun _ _ => by simp))); (try replace FT := Aside0.mk (Kd.R_grown FT.out hg (fun _ _ => by simp))); (try replace FZ := Aside0.mk (blk_grown FZ.out hg (by simp))); replace HL := Aside0.mk (blk_grown HL.out hg (by simp)); replace HB := Aside0.mk hb; obtain ⟨A29, c29, e9⟩ := Kd.R_slice ho; subst e9; have FN := Aside0.mk ho; clear ho hb hg hat)
        refine hK.out _ _ ?_ ?_
        ·intro _; exact HL.out
        clear hK K
        try simp only [Act.put, List.setIfInBounds_toArray, List.set_cons_zero, List.set_cons_succ]
        refine AnyT.taken (i := 22) (v := ?v78) rfl (by kernel_rfl) (by kernel_rfl) (by kernel_rfl) (by kernel_rfl) (fun _ _ _ h => h) (Or.inl ⟨by rfl, ?y78⟩) ?s78 ?_
        case y78 =>
         intro wSW hSW
         (obtain ⟨k0, k1, k2, k3, k4, k5, k6, k7⟩ := keep8 hSW; go_simp)
         all_goals with_reducible rfl
        case s78 => exact HL.out
        try simp only [Act.put, List.setIfInBounds_toArray, List.set_cons_zero, List.set_cons_succ]
        refine AnyT.ready (rs := [24]) (by kernel_rfl) (by simp) (AllT.step rfl (fun K hK => ?b7924) AllT.nil)
        case b7924 =>
         (have hs0 := (blk_cell FZ.out 0).trans rfl; have hs1 := (blk_cell FZ.out 1).trans rfl; have hf0 := blk_frozen FZ.out 0; have hf1 := blk_frozen FZ.out 1; go_simp)
         refine hK.out _ _ ?_ ?_
         ·exact past (by kernel_rfl)
         clear hK K
         try simp only [Act.put, List.setIfInBounds_toArray, List.set_cons_zero, List.set_cons_succ]
         refine AnyT.done (by kernel_rfl) ?_ _
         refine NoPanic.normal ?_
         (go_wp2; go_meet)
         (case rel => exact ⟨gz, .slice A29 7 c29, .slice A35 (l0_7.length + 1) c35, rfl, ⟨PE.of (vN' := .slice none 0 0) (vT' := .slice none 0 0) HL.out HB.out FN.out FT.out FZ.out FG.out⟩⟩)
     case b4923 =>
      (refine step_alloc (ob := .cells #[.slice none 0 0, .slice none 0 0] 70) (by rfl) ?hr ?_; (case hr => first | (go_simp; done) | (go_simp; rfl)); intro w9 gz hq hge hb; have FG : Aside0 (w.heap.size ≤ gz) := ⟨Nat.le_trans HB.out.size hge⟩; (try replace FN := Aside0.mk (Kd.R_below FN.out hb)); (try replace FT := Aside0.mk (Kd.R_below FT.out hb)); (try replace FZ := Aside0.mk (blk_below FZ.out hb)); replace HL := Aside0.mk (blk_below HL.out hb); replace HB := Aside0.mk (below_step HB.out hb); have FZ := Aside0.mk hq; clear hq hge hb)
      refine hK.out _ _ ?_ ?_
      ·intro _; exact HL.out
      clear hK K
      try simp only [Act.put, List.setIfInBounds_toArray, List.set_cons_zero, List.set_cons_succ]
      refine AnyT.ready (rs := [15, 21]) (by kernel_rfl) (by simp) (AllT.step rfl (fun K hK => ?b8315) (AllT.step rfl (fun K hK => ?b8321) AllT.nil))
      case b8315 =>
       (refine Kd.R_lit_step (Kd.int .i64) (w0 := w) w.heap.size 3 (by rfl) (N := 29) (by rfl) (xs := [a0_0, a0_1, a0_2, a0_3, a0_4, a0_5, (l0_7.length : Int)]) (inner := [.int .i64 a0_0, .int .i64 a0_1, .int .i64 a0_2, .int .i64 a0_3, .int .i64 a0_4, .int .i64 a0_5, .int .i64 (l0_7.length : Int)]) (ok := fun _ => True) (okp := fun _ => True) ?hr (reps_ints _ _ _ [a0_0, a0_1, a0_2, a0_3, a0_4, a0_5, (l0_7.length : Int)]) (fun _ h => h) trivial HB.out HB.out.size (by simp) ?_; (case hr => first | (go_simp; done) | (go_simp; rfl)); intro vx w9 ho hb hg hat; (try replace FN := Aside0.mk (Kd.R_grown FN.out hg (fun _ _ => by simp))); (try replace FT := Aside0.mk (Kd.R_grown FT.out hg (fun _ _ => by simp))); (try replace FZ := Aside0.mk (blk_grown FZ.out hg (by simp))); replace HL := Aside0.mk (blk_grown HL.out hg (by simp)); replace HB := Aside0.mk hb; obtain ⟨A29, c29, e9⟩ := Kd.R_slice ho; subst e9; have FN := Aside0.mk ho; clear ho hb hg hat)
       refine hK.out _ _ ?_ ?_
       ·intro _; exact HL.out
       clear hK K
       try simp only [Act.put, List.setIfInBounds_toArray, List.set_cons_zero, List.set_cons_succ]
       refine AnyT.ready (rs := [21]) (by kernel_rfl) (by simp) (AllT.step rfl (fun K hK => ?b8521) AllT.nil)
       case b8521 =>
        (refine Kd.R_append_rows_step Kd.string (w0 := w) w.heap.size (by rfl) (.tmp 32) (.tmp 34) 29 9 (.string ⟨#[]⟩) 16 (by rfl) Try.underlying29 info9 rfl (by decide) (by omega) (.slice A32 1 c32) [a0_6] l0_7 _ _ _ (fun _ => True) (fun _ => False) (by rfl) (by rfl) FT.out (Kd.C_below HR7.out HB.out) (fun _ _ h => h) (fun _ h => h.elim) (fun _ _ => trivial) HB.out HB.out.size (by simp only [List.length_cons, List.length_nil]; omega) ?_; intro vx w9 ho hb hg hat; (try replace FN := Aside0.mk (Kd.R_over FN.out FT.out (by decide) hg)); (try replace FZ := Aside0.mk (blk_grown FZ.out hg (Kd.R_ne FT.out FZ.out (by decide)))); replace HL := Aside0.mk (blk_grown HL.out hg (Kd.R_ne FT.out HL.out (by decide))); replace HB := Aside0.mk hb; obtain ⟨A35, c35, e9⟩ := Kd.R_slice ho; subst e9; replace FT := Aside0.mk ho; clear ho hb hg hat)
        refine hK.out _ _ ?_ ?_
        ·intro _; exact HL.out
        clear hK K
        try simp only [Act.put, List.setIfInBounds_toArray, List.set_cons_zero, List.set_cons_succ]
        refine AnyT.taken (i := 22) (v := ?v87) rfl (by kernel_rfl) (by kernel_rfl) (by kernel_rfl) (by kernel_rfl) (fun _ _ _ h => h) (Or.inl ⟨by rfl, ?y87⟩) ?s87 ?_
        case y87 =>
         intro wSW hSW
         (obtain ⟨k0, k1, k2, k3, k4, k5, k6, k7⟩ := keep8 hSW; go_simp)
         all_goals with_reducible rfl
        case s87 => exact HL.out
        try simp only [Act.put, List.setIfInBounds_toArray, List.set_cons_zero, List.set_cons_succ]
        refine AnyT.ready (rs := [24]) (by kernel_rfl) (by simp) (AllT.step rfl (fun K hK => ?b8824) AllT.nil)
        case b8824 =>
         (have hs0 := (blk_cell FZ.out 0).trans rfl; have hs1 := (blk_cell FZ.out 1).trans rfl; have hf0 := blk_frozen FZ.out 0; have hf1 := blk_frozen FZ.out 1; go_simp)
         refine hK.out _ _ ?_ ?_
         ·exact past (by kernel_rfl)
         clear hK K
         try simp only [Act.put, List.setIfInBounds_toArray, List.set_cons_zero, List.set_cons_succ]
         refine AnyT.done (by kernel_rfl) ?_ _
         refine NoPanic.normal ?_
         (go_wp2; go_meet)
         (case rel => exact ⟨gz, .slice A29 7 c29, .slice A35 (l0_7.length + 1) c35, rfl, ⟨PE.of (vN' := .slice none 0 0) (vT' := .slice none 0 0) HL.out HB.out FN.out FT.out FZ.out FG.out⟩⟩)
      case b8321 =>
       (refine Kd.R_append_rows_step Kd.string (w0 := w) w.heap.size (by rfl) (.tmp 32) (.tmp 34) 29 9 (.string ⟨#[]⟩) 16 (by rfl) Try.underlying29 info9 rfl (by decide) (by omega) (.slice A32 1 c32) [a0_6] l0_7 _ _ _ (fun _ => True) (fun _ => False) (by rfl) (by rfl) FT.out (Kd.C_below HR7.out HB.out) (fun _ _ h => h) (fun _ h => h.elim) (fun _ _ => trivial) HB.out HB.out.size (by simp only [List.length_cons, List.length_nil]; omega) ?_; intro vx w9 ho hb hg hat; (try replace FN := Aside0.mk (Kd.R_over FN.out FT.out (by decide) hg)); (try replace FZ := Aside0.mk (blk_grown FZ.out hg (Kd.R_ne FT.out FZ.out (by decide)))); replace HL := Aside0.mk (blk_grown HL.out hg (Kd.R_ne FT.out HL.out (by decide))); replace HB := Aside0.mk hb; obtain ⟨A35, c35, e9⟩ := Kd.R_slice ho; subst e9; replace FT := Aside0.mk ho; clear ho hb hg hat)
       refine hK.out _ _ ?_ ?_
       ·intro _; exact HL.out
       clear hK K
       try simp only [Act.put, List.setIfInBounds_toArray, List.set_cons_zero, List.set_cons_succ]
       refine AnyT.ready (rs := [15]) (by kernel_rfl) (by simp) (AllT.step rfl (fun K hK => ?b9215) AllT.nil)
       case b9215 =>
        (refine Kd.R_lit_step (Kd.int .i64) (w0 := w) w.heap.size 3 (by rfl) (N := 29) (by rfl) (xs := [a0_0, a0_1, a0_2, a0_3, a0_4, a0_5, (l0_7.length : Int)]) (inner := [.int .i64 a0_0, .int .i64 a0_1, .int .i64 a0_2, .int .i64 a0_3, .int .i64 a0_4, .int .i64 a0_5, .int .i64 (l0_7.length : Int)]) (ok := fun _ => True) (okp := fun _ => True) ?hr (reps_ints _ _ _ [a0_0, a0_1, a0_2, a0_3, a0_4, a0_5, (l0_7.length : Int)]) (fun _ h => h) trivial HB.out HB.out.size (by simp) ?_; (case hr => first | (go_simp; done) | (go_simp; rfl)); intro vx w9 ho hb hg hat; (try replace FN := Aside0.mk (Kd.R_grown FN.out hg (fun _ _ => by simp))); (try replace FT := Aside0.mk (Kd.R_grown FT.out hg (fun _ _ => by simp))); (try replace FZ := Aside0.mk (blk_grown FZ.out hg (by simp))); replace HL := Aside0.mk (blk_grown HL.out hg (by simp)); replace HB := Aside0.mk hb; obtain ⟨A29, c29, e9⟩ := Kd.R_slice ho; subst e9; have FN := Aside0.mk ho; clear ho hb hg hat)
        refine hK.out _ _ ?_ ?_
        ·intro _; exact HL.out
        clear hK K
        try simp only [Act.put, List.setIfInBounds_toArray, List.set_cons_zero, List.set_cons_succ]
        refine AnyT.taken (i := 22) (v := ?v94) rfl (by kernel_rfl) (by kernel_rfl) (by kernel_rfl) (by kernel_rfl) (fun _ _ _ h => h) (Or.inl ⟨by rfl, ?y94⟩) ?s94 ?_
        case y94 =>
         intro wSW hSW
         (obtain ⟨k0, k1, k2, k3, k4, k5, k6, k7⟩ := keep8 hSW; go_simp)
         all_goals with_reducible rfl
        case s94 => exact HL.out
        try simp only [Act.put, List.setIfInBounds_toArray, List.set_cons_zero, List.set_cons_succ]
        refine AnyT.ready (rs := [24]) (by kernel_rfl) (by simp) (AllT.step rfl (fun K hK => ?b9524) AllT.nil)
        case b9524 =>
         (have hs0 := (blk_cell FZ.out 0).trans rfl; have hs1 := (blk_cell FZ.out 1).trans rfl; have hf0 := blk_frozen FZ.out 0; have hf1 := blk_frozen FZ.out 1; go_simp)
         refine hK.out _ _ ?_ ?_
         ·exact past (by kernel_rfl)
         clear hK K
         try simp only [Act.put, List.setIfInBounds_toArray, List.set_cons_zero, List.set_cons_succ]
         refine AnyT.done (by kernel_rfl) ?_ _
         refine NoPanic.normal ?_
         (go_wp2; go_meet)
         (case rel => exact ⟨gz, .slice A29 7 c29, .slice A35 (l0_7.length + 1) c35, rfl, ⟨PE.of (vN' := .slice none 0 0) (vT' := .slice none 0 0) HL.out HB.out FN.out FT.out FZ.out FG.out⟩⟩)
    case b2023 =>
     (refine step_alloc (ob := .cells #[.slice none 0 0, .slice none 0 0] 70) (by rfl) ?hr ?_; (case hr => first | (go_simp; done) | (go_simp; rfl)); intro w9 gz hq hge hb; have FG : Aside0 (w.heap.size ≤ gz) := ⟨Nat.le_trans HB.out.size hge⟩; (try replace FN := Aside0.mk (Kd.R_below FN.out hb)); (try replace FT := Aside0.mk (Kd.R_below FT.out hb)); (try replace FZ := Aside0.mk (blk_below FZ.out hb)); replace HL := Aside0.mk (blk_below HL.out hb); replace HB := Aside0.mk (below_step HB.out hb); have FZ := Aside0.mk hq; clear hq hge hb)
     refine hK.out _ _ ?_ ?_
     ·intro _; exact HL.out
     clear hK K
     try simp only [Act.put, List.setIfInBounds_toArray, List.set_cons_zero, List.set_cons_succ]
     refine AnyT.ready (rs := [15, 18]) (by kernel_rfl) (by simp) (AllT.step rfl (fun K hK => ?b9915) (AllT.step rfl (fun K hK => ?b9918) AllT.nil))
     case b9915 =>
      (refine Kd.R_lit_step (Kd.int .i64) (w0 := w) w.heap.size 3 (by rfl) (N := 29) (by rfl) (xs := [a0_0, a0_1, a0_2, a0_3, a0_4, a0_5, (l0_7.length : Int)]) (inner := [.int .i64 a0_0, .int .i64 a0_1, .int .i64 a0_2, .int .i64 a0_3, .int .i64 a0_4, .int .i64 a0_5, .int .i64 (l0_7.length : Int)]) (ok := fun _ => True) (okp := fun _ => True) ?hr (reps_ints _ _ _ [a0_0, a0_1, a0_2, a0_3, a0_4, a0_5, (l0_7.length : Int)]) (fun _ h => h) trivial HB.out HB.out.size (by simp) ?_; (case hr => first | (go_simp; done) | (go_simp; rfl)); intro vx w9 ho hb hg hat; (try replace FN := Aside0.mk (Kd.R_grown FN.out hg (fun _ _ => by simp))); (try replace FT := Aside0.mk (Kd.R_grown FT.out hg (fun _ _ => by simp))); (try replace FZ := Aside0.mk (blk_grown FZ.out hg (by simp))); replace HL := Aside0.mk (blk_grown HL.out hg (by simp)); replace HB := Aside0.mk hb; obtain ⟨A29, c29, e9⟩ := Kd.R_slice ho; subst e9; have FN := Aside0.mk ho; clear ho hb hg hat)
      refine hK.out _ _ ?_ ?_
      ·intro _; exact HL.out
      clear hK K
      try simp only [Act.put, List.setIfInBounds_toArray, List.set_cons_zero, List.set_cons_succ]
      refine AnyT.ready (rs := [18]) (by kernel_rfl) (by simp) (AllT.step rfl (fun K hK => ?b10118) AllT.nil)
      case b10118 =>
       (refine Kd.R_lit_step Kd.string (w0 := w) w.heap.size 9 (by rfl) (N := 32) (by rfl) (xs := [a0_6]) (inner := [.string a0_6]) (ok := fun _ => True) (okp := fun _ => True) ?hr (reps_texts _ _ _ [a0_6]) (fun _ h => h) trivial HB.out HB.out.size (by simp) ?_; (case hr => first | (go_simp; done) | (go_simp; rfl)); intro vx w9 ho hb hg hat; (try replace FN := Aside0.mk (Kd.R_grown FN.out hg (fun _ _ => by simp))); (try replace FT := Aside0.mk (Kd.R_grown FT.out hg (fun _ _ => by simp))); (try replace FZ := Aside0.mk (blk_grown FZ.out hg (by simp))); replace HL := Aside0.mk (blk_grown HL.out hg (by simp)); replace HB := Aside0.mk hb; obtain ⟨A32, c32, e9⟩ := Kd.R_slice ho; subst e9; have FT := Aside0.mk ho; clear ho hb hg hat)
       refine hK.out _ _ ?_ ?_
       ·intro _; exact HL.out
       clear hK K
       try simp only [Act.put, List.setIfInBounds_toArray, List.set_cons_zero, List.set_cons_succ]
       refine AnyT.ready (rs := [21]) (by kernel_rfl) (by simp) (AllT.step rfl (fun K hK => ?b10321) AllT.nil)
       case b10321 =>
        (refine Kd.R_append_rows_step Kd.string (w0 := w) w.heap.size (by rfl) (.tmp 32) (.tmp 34) 29 9 (.string ⟨#[]⟩) 16 (by rfl) Try.underlying29 info9 rfl (by decide) (by omega) (.slice A32 1 c32) [a0_6] l0_7 _ _ _ (fun _ => True) (fun _ => False) (by rfl) (by rfl) FT.out (Kd.C_below HR7.out HB.out) (fun _ _ h => h) (fun _ h => h.elim) (fun _ _ => trivial) HB.out HB.out.size (by simp only [List.length_cons, List.length_nil]; omega) ?_; intro vx w9 ho hb hg hat; (try replace FN := Aside0.mk (Kd.R_over FN.out FT.out (by decide) hg)); (try replace FZ := Aside0.mk (blk_grown FZ.out hg (Kd.R_ne FT.out FZ.out (by decide)))); replace HL := Aside0.mk (blk_grown HL.out hg (Kd.R_ne FT.out HL.out (by decide))); replace HB := Aside0.mk hb; obtain ⟨A35, c35, e9⟩ := Kd.R_slice ho; subst e9; replace FT := Aside0.mk ho; clear ho hb hg hat)
        refine hK.out _ _ ?_ ?_
        ·intro _; exact HL.out
        clear hK K
        try simp only [Act.put, List.setIfInBounds_toArray, List.set_cons_zero, List.set_cons_succ]
        refine AnyT.taken (i := 22) (v := ?v105) rfl (by kernel_rfl) (by kernel_rfl) (by kernel_rfl) (by kernel_rfl) (fun _ _ _ h => h) (Or.inl ⟨by rfl, ?y105⟩) ?s105 ?_
        case y105 =>
         intro wSW hSW
         (obtain ⟨k0, k1, k2, k3, k4, k5, k6, k7⟩ := keep8 hSW; go_simp)
         all_goals with_reducible rfl
        case s105 => exact HL.out
        try simp only [Act.put, List.setIfInBounds_toArray, List.set_cons_zero, List.set_cons_succ]
        refine AnyT.ready (rs := [24]) (by kernel_rfl) (by simp) (AllT.step rfl (fun K hK => ?b10624) AllT.nil)
        case b10624 =>
         (have hs0 := (blk_cell FZ.out 0).trans rfl; have hs1 := (blk_cell FZ.out 1).trans rfl; have hf0 := blk_frozen FZ.out 0; have hf1 := blk_frozen FZ.out 1; go_simp)
         refine hK.out _ _ ?_ ?_
         ·exact past (by kernel_rfl)
         clear hK K
         try simp only [Act.put, List.setIfInBounds_toArray, List.set_cons_zero, List.set_cons_succ]
         refine AnyT.done (by kernel_rfl) ?_ _
         refine NoPanic.normal ?_
         (go_wp2; go_meet)
         (case rel => exact ⟨gz, .slice A29 7 c29, .slice A35 (l0_7.length + 1) c35, rfl, ⟨PE.of (vN' := .slice none 0 0) (vT' := .slice none 0 0) HL.out HB.out FN.out FT.out FZ.out FG.out⟩⟩)
     case b9918 =>
      (refine Kd.R_lit_step Kd.string (w0 := w) w.heap.size 9 (by rfl) (N := 32) (by rfl) (xs := [a0_6]) (inner := [.string a0_6]) (ok := fun _ => True) (okp := fun _ => True) ?hr (reps_texts _ _ _ [a0_6]) (fun _ h => h) trivial HB.out HB.out.size (by simp) ?_; (case hr => first | (go_simp; done) | (go_simp; rfl)); intro vx w9 ho hb hg hat; (try replace FN := Aside0.mk (Kd.R_grown FN.out hg (fun _ _ => by simp))); (try replace FT := Aside0.mk (Kd.R_grown FT.out hg (fun _ _ => by simp))); (try replace FZ := Aside0.mk (blk_grown FZ.out hg (by simp))); replace HL := Aside0.mk (blk_grown HL.out hg (by simp)); replace HB := Aside0.mk hb; obtain ⟨A32, c32, e9⟩ := Kd.R_slice ho; subst e9; have FT := Aside0.mk ho; clear ho hb hg hat)
      refine hK.out _ _ ?_ ?_
      ·intro _; exact HL.out
      clear hK K
      try simp only [Act.put, List.setIfInBounds_toArray, List.set_cons_zero, List.set_cons_succ]
      refine AnyT.ready (rs := [15, 21]) (by kernel_rfl) (by simp) (AllT.step rfl (fun K hK => ?b11015) (AllT.step rfl (fun K hK => ?b11021) AllT.nil))
      case b11015 =>
       (refine Kd.R_lit_step (Kd.int .i64) (w0 := w) w.heap.size 3 (by rfl) (N := 29) (by rfl) (xs := [a0_0, a0_1, a0_2, a0_3, a0_4, a0_5, (l0_7.length : Int)]) (inner := [.int .i64 a0_0, .int .i64 a0_1, .int .i64 a0_2, .int .i64 a0_3, .int .i64 a0_4, .int .i64 a0_5, .int .i64 (l0_7.length : Int)]) (ok := fun _ => True) (okp := fun _ => True) ?hr (reps_ints _ _ _ [a0_0, a0_1, a0_2, a0_3, a0_4, a0_5, (l0_7.length : Int)]) (fun _ h => h) trivial HB.out HB.out.size (by simp) ?_; (case hr => first | (go_simp; done) | (go_simp; rfl)); intro vx w9 ho hb hg hat; (try replace FN := Aside0.mk (Kd.R_grown FN.out hg (fun _ _ => by simp))); (try replace FT := Aside0.mk (Kd.R_grown FT.out hg (fun _ _ => by simp))); (try replace FZ := Aside0.mk (blk_grown FZ.out hg (by simp))); replace HL := Aside0.mk (blk_grown HL.out hg (by simp)); replace HB := Aside0.mk hb; obtain ⟨A29, c29, e9⟩ := Kd.R_slice ho; subst e9; have FN := Aside0.mk ho; clear ho hb hg hat)
       refine hK.out _ _ ?_ ?_
       ·intro _; exact HL.out
       clear hK K
       try simp only [Act.put, List.setIfInBounds_toArray, List.set_cons_zero, List.set_cons_succ]
       refine AnyT.ready (rs := [21]) (by kernel_rfl) (by simp) (AllT.step rfl (fun K hK => ?b11221) AllT.nil)
       case b11221 =>
        (refine Kd.R_append_rows_step Kd.string (w0 := w) w.heap.size (by rfl) (.tmp 32) (.tmp 34) 29 9 (.string ⟨#[]⟩) 16 (by rfl) Try.underlying29 info9 rfl (by decide) (by omega) (.slice A32 1 c32) [a0_6] l0_7 _ _ _ (fun _ => True) (fun _ => False) (by rfl) (by rfl) FT.out (Kd.C_below HR7.out HB.out) (fun _ _ h => h) (fun _ h => h.elim) (fun _ _ => trivial) HB.out HB.out.size (by simp only [List.length_cons, List.length_nil]; omega) ?_; intro vx w9 ho hb hg hat; (try replace FN := Aside0.mk (Kd.R_over FN.out FT.out (by decide) hg)); (try replace FZ := Aside0.mk (blk_grown FZ.out hg (Kd.R_ne FT.out FZ.out (by decide)))); replace HL := Aside0.mk (blk_grown HL.out hg (Kd.R_ne FT.out HL.out (by decide))); replace HB := Aside0.mk hb; obtain ⟨A35, c35, e9⟩ := Kd.R_slice ho; subst e9; replace FT := Aside0.mk ho; clear ho hb hg hat)
        refine hK.out _ _ ?_ ?_
        ·intro _; exact HL.out
        clear hK K
        try simp only [Act.put, List.setIfInBounds_toArray, List.set_cons_zero, List.set_cons_succ]
        refine AnyT.taken (i := 22) (v := ?v114) rfl (by kernel_rfl) (by kernel_rfl) (by kernel_rfl) (by kernel_rfl) (fun _ _ _ h => h) (Or.inl ⟨by rfl, ?y114⟩) ?s114 ?_
        case y114 =>
         intro wSW hSW
         (obtain ⟨k0, k1, k2, k3, k4, k5, k6, k7⟩ := keep8 hSW; go_simp)
         all_goals with_reducible rfl
        case s114 => exact HL.out
        try simp only [Act.put, List.setIfInBounds_toArray, List.set_cons_zero, List.set_cons_succ]
        refine AnyT.ready (rs := [24]) (by kernel_rfl) (by simp) (AllT.step rfl (fun K hK => ?b11524) AllT.nil)
        case b11524 =>
         (have hs0 := (blk_cell FZ.out 0).trans rfl; have hs1 := (blk_cell FZ.out 1).trans rfl; have hf0 := blk_frozen FZ.out 0; have hf1 := blk_frozen FZ.out 1; go_simp)
         refine hK.out _ _ ?_ ?_
         ·exact past (by kernel_rfl)
         clear hK K
         try simp only [Act.put, List.setIfInBounds_toArray, List.set_cons_zero, List.set_cons_succ]
         refine AnyT.done (by kernel_rfl) ?_ _
         refine NoPanic.normal ?_
         (go_wp2; go_meet)
         (case rel => exact ⟨gz, .slice A29 7 c29, .slice A35 (l0_7.length + 1) c35, rfl, ⟨PE.of (vN' := .slice none 0 0) (vT' := .slice none 0 0) HL.out HB.out FN.out FT.out FZ.out FG.out⟩⟩)
      case b11021 =>
       (refine Kd.R_append_rows_step Kd.string (w0 := w) w.heap.size (by rfl) (.tmp 32) (.tmp 34) 29 9 (.string ⟨#[]⟩) 16 (by rfl) Try.underlying29 info9 rfl (by decide) (by omega) (.slice A32 1 c32) [a0_6] l0_7 _ _ _ (fun _ => True) (fun _ => False) (by rfl) (by rfl) FT.out (Kd.C_below HR7.out HB.out) (fun _ _ h => h) (fun _ h => h.elim) (fun _ _ => trivial) HB.out HB.out.size (by simp only [List.length_cons, List.length_nil]; omega) ?_; intro vx w9 ho hb hg hat; (try replace FN := Aside0.mk (Kd.R_over FN.out FT.out (by decide) hg)); (try replace FZ := Aside0.mk (blk_grown FZ.out hg (Kd.R_ne FT.out FZ.out (by decide)))); replace HL := Aside0.mk (blk_grown HL.out hg (Kd.R_ne FT.out HL.out (by decide))); replace HB := Aside0.mk hb; obtain ⟨A35, c35, e9⟩ := Kd.R_slice ho; subst e9; replace FT := Aside0.mk ho; clear ho hb hg hat)
       refine hK.out _ _ ?_ ?_
       ·intro _; exact HL.out
       clear hK K
       try simp only [Act.put, List.setIfInBounds_toArray, List.set_cons_zero, List.set_cons_succ]
       refine AnyT.ready (rs := [15]) (by kernel_rfl) (by simp) (AllT.step rfl (fun K hK => ?b11915) AllT.nil)
       case b11915 =>
        (refine Kd.R_lit_step (Kd.int .i64) (w0 := w) w.heap.size 3 (by rfl) (N := 29) (by rfl) (xs := [a0_0, a0_1, a0_2, a0_3, a0_4, a0_5, (l0_7.length : Int)]) (inner := [.int .i64 a0_0, .int .i64 a0_1, .int .i64 a0_2, .int .i64 a0_3, .int .i64 a0_4, .int .i64 a0_5, .int .i64 (l0_7.length : Int)]) (ok := fun _ => True) (okp := fun _ => True) ?hr (reps_ints _ _ _ [a0_0, a0_1, a0_2, a0_3, a0_4, a0_5, (l0_7.length : Int)]) (fun _ h => h) trivial HB.out HB.out.size (by simp) ?_; (case hr => first | (go_simp; done) | (go_simp; rfl)); intro vx w9 ho hb hg hat; (try replace FN := Aside0.mk (Kd.R_grown FN.out hg (fun _ _ => by simp))); (try replace FT := Aside0.mk (Kd.R_grown FT.out hg (fun _ _ => by simp))); (try replace FZ := Aside0.mk (blk_grown FZ.out hg (by simp))); replace HL := Aside0.mk (blk_grown HL.out hg (by simp)); replace HB := Aside0.mk hb; obtain ⟨A29, c29, e9⟩ := Kd.R_slice ho; subst e9; have FN := Aside0.mk ho; clear ho hb hg hat)
        refine hK.out _ _ ?_ ?_
        ·intro _; exact HL.out
        clear hK K
        try simp only [Act.put, List.setIfInBounds_toArray, List.set_cons_zero, List.set_cons_succ]
        refine AnyT.taken (i := 22) (v := ?v121) rfl (by kernel_rfl) (by kernel_rfl) (by kernel_rfl) (by kernel_rfl) (fun _ _ _ h => h) (Or.inl ⟨by rfl, ?y121⟩) ?s121 ?_
        case y121 =>
         intro wSW hSW
         (obtain ⟨k0, k1, k2, k3, k4, k5, k6, k7⟩ := keep8 hSW; go_simp)
         all_goals with_reducible rfl
        case s121 => exact HL.out
        try simp only [Act.put, List.setIfInBounds_toArray, List.set_cons_zero, List.set_cons_succ]
        refine AnyT.ready (rs := [24]) (by kernel_rfl) (by simp) (AllT.step rfl (fun K hK => ?b12224) AllT.nil)
        case b12224 =>
         (have hs0 := (blk_cell FZ.out 0).trans rfl; have hs1 := (blk_cell FZ.out 1).trans rfl; have hf0 := blk_frozen FZ.out 0; have hf1 := blk_frozen FZ.out 1; go_simp)
         refine hK.out _ _ ?_ ?_
         ·exact past (by kernel_rfl)
         clear hK K
         try simp only [Act.put, List.setIfInBounds_toArray, List.set_cons_zero, List.set_cons_succ]
         refine AnyT.done (by kernel_rfl) ?_ _
         refine NoPanic.normal ?_
         (go_wp2; go_meet)
         (case rel => exact ⟨gz, .slice A29 7 c29, .slice A35 (l0_7.length + 1) c35, rfl, ⟨PE.of (vN' := .slice none 0 0) (vT' := .slice none 0 0) HL.out HB.out FN.out FT.out FZ.out FG.out⟩⟩)
   case rest =>
    obtain ⟨gp, vN0, vT0, rfl, HP0⟩ := hcut
    clear HL HB HB2 BL2
    have hcz_8 : wc.cell? ⟨gl, 8, none⟩ = some (.slice A0_8 l0_8.length c0_8) := (blk_cell HP0.out.bl 8).trans rfl
    go_wp2
    go_loopw [40] (fun v40 wr => ∃ (i : Nat) (x : Int) (xs : List Int) (ts : List ByteArray) (vN vT : Value), v40 = .int .i64 x ∧ Aside0 (x = (i : Int)) ∧ Aside0 (i ≤ l0_8.length) ∧ Aside0 (xs = [a0_0, a0_1, a0_2, a0_3, a0_4, a0_5, (l0_7.length : Int)] ++ flagsOf (l0_8.take i)) ∧ Aside0 (ts = ([a0_6] ++ l0_7) ++ pairsOf (l0_8.take i)) ∧ Aside0 (PE w wr gl #[.int .i64 a0_0, .int .i64 a0_1, .int .i64 a0_2, .int .i64 a0_3, .int .i64 a0_4, .int .i64 a0_5, .string a0_6, .slice A0_7 l0_7.length c0_7, .slice A0_8 l0_8.length c0_8] gp xs ts vN vT)) (fun v40 _ => l0_8.length - (intOf v40).toNat)
    case atStart => exact ⟨0, 0, [a0_0, a0_1, a0_2, a0_3, a0_4, a0_5, (l0_7.length : Int)], [a0_6] ++ l0_7, _, _, rfl, ⟨rfl⟩, ⟨Nat.zero_le _⟩, ⟨by simp [flagsOf]⟩, ⟨by simp [pairsOf]⟩, HP0⟩
    case round =>
     clear hcz_8
     obtain ⟨i, x, xs, ts, vN, vT, rfl, hx, hi, hxs, hts, HP⟩ := hrel
     clear HP0
     have hxi := hx.out
     have hile := hi.out
     by_cases hlt : i < l0_8.length
     ·have c1 : decide (x < (l0_8.length : Int)) = true := decide_eq_true (by omega)
      have p118 : 0 ≤ x := by omega
      have q118 : x < (l0_8.length : Int) := by omega
      have hrd : rd_T72 l0_8 x = l0_8[i] := by rw [hxi]; exact rdT_get hlt
      obtain ⟨ad, e118, hx0, hx1, hx2⟩ := at_T72 HR8.out x p118 q118
      cases e118
      rw [hrd] at hx0 hx1 hx2
      replace hx0 := (HP.out.bel.cell (World.block_lt_of_cell? w _ hx0)).trans hx0
      replace hx1 := (HP.out.bel.cell (World.block_lt_of_cell? w _ hx1)).trans hx1
      replace hx2 := (HP.out.bel.cell (World.block_lt_of_cell? w _ hx2)).trans hx2
      have HXS := Aside0.mk (show [a0_0, a0_1, a0_2, a0_3, a0_4, a0_5, (l0_7.length : Int)] ++ flagsOf (l0_8.take (i + 1)) = xs ++ [if l0_8[i].f2 = true then 1 else 0] from by rw [hxs.out, flags_step hlt, ← List.append_assoc])
      have HTS := Aside0.mk (show ([a0_6] ++ l0_7) ++ pairsOf (l0_8.take (i + 1)) = ts ++ [l0_8[i].f0, l0_8[i].f1] from by rw [hts.out, pairs_step hlt, ← List.append_assoc])
      have HXL : Aside0 (xs.length ≤ 1000010) := ⟨by rw [hxs.out]; simp [flagsOf]; omega⟩
      have HTL : Aside0 (ts.length ≤ 3000010) := ⟨by rw [hts.out]; simp [pairs_len]; omega⟩
      have HI := Aside0.mk (show x + 1 = ((i + 1 : Nat) : Int) from by omega)
      have HW : Aside0 (wrap64 (x + 1) = x + 1) := ⟨wrap_id (by omega) (by omega)⟩
      have HLT := Aside0.mk hlt
      obtain ⟨t0, ht0⟩ : ∃ t, t = l0_8[i].f0 := ⟨_, rfl⟩
      obtain ⟨t1, ht1⟩ : ∃ t, t = l0_8[i].f1 := ⟨_, rfl⟩
      obtain ⟨bq, hbq⟩ : ∃ b, b = l0_8[i].f2 := ⟨_, rfl⟩
      rw [← ht0] at hx0 HTS
      rw [← ht1] at hx1 HTS
      rw [← hbq] at hx2 HXS
      replace p118 := eq_true p118
      replace q118 := eq_true q118
      clear ht0 ht1 hbq hrd hxi hile hlt
      obtain ⟨AN, cN, eN⟩ := Kd.R_slice HP.out.ns
      subst eN
      obtain ⟨AT, cT, eT⟩ := Kd.R_slice HP.out.ts
      subst eT
      cases bq with
      |true =>
       have HP1 := Aside0.mk (HP.out.drew)
       go_wp2_with (first | ((with_reducible refine gate_dst (N := 7) rfl ?_); refine box_event ?hg (N := 7) ?hd (cs := #[.string (⟨#[]⟩ : ByteArray), .string (⟨#[]⟩ : ByteArray), .bool false]) (t := 72) ?hr ?_; (case hd => rfl); (case hg => rfl); (case hr => first | (go_simp; done) | (go_simp; rfl)); intro g7 hg w7 hbox hb; have HP7 := Aside0.mk (HP.out.below hb); have B7 := Aside0.mk hbox; have G7 : Aside0 (w.heap.size ≤ g7) := ⟨by rw [hg]; exact HP.out.bel.size⟩; replace hx0 := (hb.cell (World.block_lt_of_cell? _ _ hx0)).trans hx0; replace hx1 := (hb.cell (World.block_lt_of_cell? _ _ hx1)).trans hx1; replace hx2 := (hb.cell (World.block_lt_of_cell? _ _ hx2)).trans hx2; clear hg hb hbox HP; have hz0 : w7.cell? ⟨g7, 0, none⟩ = some (.string ⟨#[]⟩) := (blk_cell B7.out 0).trans rfl; have hz1 : w7.cell? ⟨g7, 1, none⟩ = some (.string ⟨#[]⟩) := (blk_cell B7.out 1).trans rfl; have hz2 : w7.cell? ⟨g7, 2, none⟩ = some (.bool false) := (blk_cell B7.out 2).trans rfl; have hzf0 := blk_frozen B7.out 0; have hzf1 := blk_frozen B7.out 1; have hzf2 := blk_frozen B7.out 2))
       have H7 := Aside0.mk (show (((w7.setCell ⟨g7, 0, none⟩ (.string t0)).setCell ⟨g7, 1, none⟩ (.string t1)).setCell ⟨g7, 2, none⟩ (.bool true)).drew.heap[g7]? = some (.cells #[.string t0, .string t1, .bool true] 72 (0, 0)) from blk_drew (blk_set (blk_set (blk_set B7.out 0 (.string t0)) 1 (.string t1)) 2 (.bool true)))
       have HPs := Aside0.mk ((((HP7.out.set B7.out G7.out 0 (.string t0)).set (blk_set B7.out 0 _) G7.out 1 (.string t1)).set (blk_set (blk_set B7.out 0 _) 1 _) G7.out 2 (.bool true)).drew)
       have HL := Aside0.mk HPs.out.bl
       have HPB := Aside0.mk HPs.out.bp
       have FN := Aside0.mk HPs.out.ns
       have FT := Aside0.mk HPs.out.ts
       have HB := Aside0.mk HPs.out.bel
       have HG := Aside0.mk HPs.out.gep
       clear HPs HP7 B7 G7 hz0 hz1 hz2 hzf0 hzf1 hzf2 hx0 hx1 hx2
       refine wp_region_noPanic ?_
       refine rt_begin (S := (fun W => W.heap[gp]? = some (.cells #[.slice AN xs.length cN, .slice AT ts.length cT] 70 (0, 0)) ∧ W.heap[g7]? = some (.cells #[.string t0, .string t1, .bool true] 72 (0, 0)))) (s := 14) (by kernel_rfl) ?_
       refine AnyT.taken (i := 0) (v := ?v125) rfl (by kernel_rfl) (by kernel_rfl) (by kernel_rfl) (by kernel_rfl) (fun _ _ _ h => h) (Or.inl ⟨by rfl, ?y125⟩) ?s125 ?_
       case y125 =>
        intro wSW hSW
        (have y0 : wSW.cell? ⟨gp, 0, none⟩ = some (.slice AN xs.length cN) := (blk_cell hSW.1 0).trans rfl; have y1 : wSW.cell? ⟨gp, 1, none⟩ = some (.slice AT ts.length cT) := (blk_cell hSW.1 1).trans rfl; have y2 : wSW.cell? ⟨g7, 0, none⟩ = some (.string t0) := (blk_cell hSW.2 0).trans rfl; have y3 : wSW.cell? ⟨g7, 1, none⟩ = some (.string t1) := (blk_cell hSW.2 1).trans rfl; go_simp)
        all_goals with_reducible rfl
       case s125 => exact ⟨HPB.out, H7.out⟩
       try simp only [Act.put, List.setIfInBounds_toArray, List.set_cons_zero, List.set_cons_succ]
       refine AnyT.taken (i := 1) (v := ?v126) rfl (by kernel_rfl) (by kernel_rfl) (by kernel_rfl) (by kernel_rfl) (fun _ _ _ h => h) (Or.inl ⟨by rfl, ?y126⟩) ?s126 ?_
       case y126 =>
        intro wSW hSW
        (have y0 : wSW.cell? ⟨gp, 0, none⟩ = some (.slice AN xs.length cN) := (blk_cell hSW.1 0).trans rfl; have y1 : wSW.cell? ⟨gp, 1, none⟩ = some (.slice AT ts.length cT) := (blk_cell hSW.1 1).trans rfl; have y2 : wSW.cell? ⟨g7, 0, none⟩ = some (.string t0) := (blk_cell hSW.2 0).trans rfl; have y3 : wSW.cell? ⟨g7, 1, none⟩ = some (.string t1) := (blk_cell hSW.2 1).trans rfl; go_simp)
        all_goals with_reducible rfl
       case s126 => exact ⟨HPB.out, H7.out⟩
       try simp only [Act.put, List.setIfInBounds_toArray, List.set_cons_zero, List.set_cons_succ]
       refine AnyT.taken (i := 2) (v := ?v127) rfl (by kernel_rfl) (by kernel_rfl) (by kernel_rfl) (by kernel_rfl) (fun _ _ _ h => h) (Or.inl ⟨by rfl, ?y127⟩) ?s127 ?_
       case y127 =>
        intro wSW hSW
        (have y0 : wSW.cell? ⟨gp, 0, none⟩ = some (.slice AN xs.length cN) := (blk_cell hSW.1 0).trans rfl; have y1 : wSW.cell? ⟨gp, 1, none⟩ = some (.slice AT ts.length cT) := (blk_cell hSW.1 1).trans rfl; have y2 : wSW.cell? ⟨g7, 0, none⟩ = some (.string t0) := (blk_cell hSW.2 0).trans rfl; have y3 : wSW.cell? ⟨g7, 1, none⟩ = some (.string t1) := (blk_cell hSW.2 1).trans rfl; go_simp)
        all_goals with_reducible rfl
       case s127 => exact ⟨HPB.out, H7.out⟩
       try simp only [Act.put, List.setIfInBounds_toArray, List.set_cons_zero, List.set_cons_succ]
       refine AnyT.taken (i := 5) (v := ?v128) rfl (by kernel_rfl) (by kernel_rfl) (by kernel_rfl) (by kernel_rfl) (fun _ _ _ h => h) (Or.inl ⟨by rfl, ?y128⟩) ?s128 ?_
       case y128 =>
        intro wSW hSW
        (have y0 : wSW.cell? ⟨gp, 0, none⟩ = some (.slice AN xs.length cN) := (blk_cell hSW.1 0).trans rfl; have y1 : wSW.cell? ⟨gp, 1, none⟩ = some (.slice AT ts.length cT) := (blk_cell hSW.1 1).trans rfl; have y2 : wSW.cell? ⟨g7, 0, none⟩ = some (.string t0) := (blk_cell hSW.2 0).trans rfl; have y3 : wSW.cell? ⟨g7, 1, none⟩ = some (.string t1) := (blk_cell hSW.2 1).trans rfl; go_simp)
        all_goals with_reducible rfl
       case s128 => exact ⟨HPB.out, H7.out⟩
       try simp only [Act.put, List.setIfInBounds_toArray, List.set_cons_zero, List.set_cons_succ]
       refine AnyT.taken (i := 6) (v := ?v129) rfl (by kernel_rfl) (by kernel_rfl) (by kernel_rfl) (by kernel_rfl) (fun _ _ _ h => h) (Or.inl ⟨by rfl, ?y129⟩) ?s129 ?_
       case y129 =>
        intro wSW hSW
        (have y0 : wSW.cell? ⟨gp, 0, none⟩ = some (.slice AN xs.length cN) := (blk_cell hSW.1 0).trans rfl; have y1 : wSW.cell? ⟨gp, 1, none⟩ = some (.slice AT ts.length cT) := (blk_cell hSW.1 1).trans rfl; have y2 : wSW.cell? ⟨g7, 0, none⟩ = some (.string t0) := (blk_cell hSW.2 0).trans rfl; have y3 : wSW.cell? ⟨g7, 1, none⟩ = some (.string t1) := (blk_cell hSW.2 1).trans rfl; go_simp)
        all_goals with_reducible rfl
       case s129 => exact ⟨HPB.out, H7.out⟩
       try simp only [Act.put, List.setIfInBounds_toArray, List.set_cons_zero, List.set_cons_succ]
       refine AnyT.taken (i := 7) (v := ?v130) rfl (by kernel_rfl) (by kernel_rfl) (by kernel_rfl) (by kernel_rfl) (fun _ _ _ h => h) (Or.inl ⟨by rfl, ?y130⟩) ?s130 ?_
       case y130 =>
        intro wSW hSW
        (have y0 : wSW.cell? ⟨gp, 0, none⟩ = some (.slice AN xs.length cN) := (blk_cell hSW.1 0).trans rfl; have y1 : wSW.cell? ⟨gp, 1, none⟩ = some (.slice AT ts.length cT) := (blk_cell hSW.1 1).trans rfl; have y2 : wSW.cell? ⟨g7, 0, none⟩ = some (.string t0) := (blk_cell hSW.2 0).trans rfl; have y3 : wSW.cell? ⟨g7, 1, none⟩ = some (.string t1) := (blk_cell hSW.2 1).trans rfl; go_simp)
        all_goals with_reducible rfl
       case s130 => exact ⟨HPB.out, H7.out⟩
       try simp only [Act.put, List.setIfInBounds_toArray, List.set_cons_zero, List.set_cons_succ]
       refine AnyT.taken (i := 8) (v := ?v131) rfl (by kernel_rfl) (by kernel_rfl) (by kernel_rfl) (by kernel_rfl) (fun _ _ _ h => h) (Or.inl ⟨by rfl, ?y131⟩) ?s131 ?_
       case y131 =>
        intro wSW hSW
        (have y0 : wSW.cell? ⟨gp, 0, none⟩ = some (.slice AN xs.length cN) := (blk_cell hSW.1 0).trans rfl; have y1 : wSW.cell? ⟨gp, 1, none⟩ = some (.slice AT ts.length cT) := (blk_cell hSW.1 1).trans rfl; have y2 : wSW.cell? ⟨g7, 0, none⟩ = some (.string t0) := (blk_cell hSW.2 0).trans rfl; have y3 : wSW.cell? ⟨g7, 1, none⟩ = some (.string t1) := (blk_cell hSW.2 1).trans rfl; go_simp)
        all_goals with_reducible rfl
       case s131 => exact ⟨HPB.out, H7.out⟩
       try simp only [Act.put, List.setIfInBounds_toArray, List.set_cons_zero, List.set_cons_succ]
       refine AnyT.taken (i := 9) (v := ?v132) rfl (by kernel_rfl) (by kernel_rfl) (by kernel_rfl) (by kernel_rfl) (fun _ _ _ h => h) (Or.inl ⟨by rfl, ?y132⟩) ?s132 ?_
       case y132 =>
        intro wSW hSW
        (have y0 : wSW.cell? ⟨gp, 0, none⟩ = some (.slice AN xs.length cN) := (blk_cell hSW.1 0).trans rfl; have y1 : wSW.cell? ⟨gp, 1, none⟩ = some (.slice AT ts.length cT) := (blk_cell hSW.1 1).trans rfl; have y2 : wSW.cell? ⟨g7, 0, none⟩ = some (.string t0) := (blk_cell hSW.2 0).trans rfl; have y3 : wSW.cell? ⟨g7, 1, none⟩ = some (.string t1) := (blk_cell hSW.2 1).trans rfl; go_simp)
        all_goals with_reducible rfl
       case s132 => exact ⟨HPB.out, H7.out⟩
       try simp only [Act.put, List.setIfInBounds_toArray, List.set_cons_zero, List.set_cons_succ]
       refine AnyT.taken (i := 10) (v := ?v133) rfl (by kernel_rfl) (by kernel_rfl) (by kernel_rfl) (by kernel_rfl) (fun _ _ _ h => h) (Or.inl ⟨by rfl, ?y133⟩) ?s133 ?_
       case y133 =>
        intro wSW hSW
        (have y0 : wSW.cell? ⟨gp, 0, none⟩ = some (.slice AN xs.length cN) := (blk_cell hSW.1 0).trans rfl; have y1 : wSW.cell? ⟨gp, 1, none⟩ = some (.slice AT ts.length cT) := (blk_cell hSW.1 1).trans rfl; have y2 : wSW.cell? ⟨g7, 0, none⟩ = some (.string t0) := (blk_cell hSW.2 0).trans rfl; have y3 : wSW.cell? ⟨g7, 1, none⟩ = some (.string t1) := (blk_cell hSW.2 1).trans rfl; go_simp)
        all_goals with_reducible rfl
       case s133 => exact ⟨HPB.out, H7.out⟩
       try simp only [Act.put, List.setIfInBounds_toArray, List.set_cons_zero, List.set_cons_succ]
       refine AnyT.ready (rs := [3, 11]) (by kernel_rfl) (by simp) (AllT.step rfl (fun K hK => ?b13403) (AllT.step rfl (fun K hK => ?b13411) AllT.nil))
       case b13403 =>
        (refine Kd.R_lit_step (Kd.int .i64) (w0 := w) w.heap.size 3 (by rfl) (N := 49) (by rfl) (xs := [1]) (inner := [.int .i64 1]) (ok := fun _ => True) (okp := fun _ => True) ?hr (reps_ints _ _ _ [1]) (fun _ h => h) trivial HB.out HB.out.size (by simp) ?_; (case hr => first | (go_simp; done) | (go_simp; rfl)); intro vx w9 ho hb hg hat; (try replace FA := Aside0.mk (Kd.R_grown FA.out hg (fun _ _ => by simp))); (try replace FL := Aside0.mk (Kd.R_grown FL.out hg (fun _ _ => by simp))); replace FN := Aside0.mk (Kd.R_grown FN.out hg (fun _ _ => by simp)); replace FT := Aside0.mk (Kd.R_grown FT.out hg (fun _ _ => by simp)); replace HPB := Aside0.mk (blk_grown HPB.out hg (by simp)); replace H7 := Aside0.mk (blk_grown H7.out hg (by simp)); replace HL := Aside0.mk (blk_grown HL.out hg (by simp)); replace HB := Aside0.mk hb; obtain ⟨A49, c49, e9⟩ := Kd.R_slice ho; subst e9; have FA := Aside0.mk ho; clear ho hb hg hat)
        refine hK.out _ _ ?_ ?_
        ·intro _; exact ⟨HPB.out, H7.out⟩
        clear hK K
        try simp only [Act.put, List.setIfInBounds_toArray, List.set_cons_zero, List.set_cons_succ]
        refine AnyT.ready (rs := [4, 11]) (by kernel_rfl) (by simp) (AllT.step rfl (fun K hK => ?b13604) (AllT.step rfl (fun K hK => ?b13611) AllT.nil))
        case b13604 =>
         (refine Kd.R_append_rows_step (Kd.int .i64) (w0 := w) w.heap.size (by rfl) (.tmp 47) (.tmp 49) 39 3 (.int .i64 0) 8 (by rfl) Try.underlying39 info3 rfl (by decide) (by omega) (.slice AN xs.length cN) xs [1] _ _ _ (fun _ => True) (fun _ => False) (by rfl) (by rfl) FN.out (Kd.R_reads' FA.out).2.2 (fun _ _ h => h) (fun _ h => h.elim) (fun _ _ => trivial) HB.out HB.out.size (by have h1 := HXL.out; have h2 := HTL.out; simp only [List.length_cons, List.length_nil]; omega) ?_; intro vx w9 ho hb hg hat; (try replace FT := Aside0.mk (Kd.R_over FT.out FN.out (by decide) hg)); (try replace FL := Aside0.mk (Kd.R_over FL.out FN.out (by decide) hg)); replace HPB := Aside0.mk (blk_grown HPB.out hg (Kd.R_ne FN.out HPB.out (by decide))); replace H7 := Aside0.mk (blk_grown H7.out hg (Kd.R_ne FN.out H7.out (by decide))); replace HL := Aside0.mk (blk_grown HL.out hg (Kd.R_ne FN.out HL.out (by decide))); replace HB := Aside0.mk hb; obtain ⟨A50, c50, e9⟩ := Kd.R_slice ho; simp only [List.length_append, List.length_cons, List.length_nil, Nat.zero_add, Nat.reduceAdd] at e9; subst e9; replace FN := Aside0.mk ho; clear ho hb hg hat FA)
         refine hK.out _ _ ?_ ?_
         ·intro _; exact ⟨HPB.out, H7.out⟩
         clear hK K
         try simp only [Act.put, List.setIfInBounds_toArray, List.set_cons_zero, List.set_cons_succ]
         refine AnyT.taken (i := 13) (v := ?v138) rfl (by kernel_rfl) (by kernel_rfl) (by kernel_rfl) (by kernel_rfl) (fun _ _ _ h => h) (Or.inl ⟨by rfl, ?y138⟩) ?s138 ?_
         case y138 =>
          intro wSW hSW
          (have y0 : wSW.cell? ⟨gp, 0, none⟩ = some (.slice AN xs.length cN) := (blk_cell hSW.1 0).trans rfl; have y1 : wSW.cell? ⟨gp, 1, none⟩ = some (.slice AT ts.length cT) := (blk_cell hSW.1 1).trans rfl; have y2 : wSW.cell? ⟨g7, 0, none⟩ = some (.string t0) := (blk_cell hSW.2 0).trans rfl; have y3 : wSW.cell? ⟨g7, 1, none⟩ = some (.string t1) := (blk_cell hSW.2 1).trans rfl; go_simp)
          all_goals with_reducible rfl
         case s138 => exact ⟨HPB.out, H7.out⟩
         try simp only [Act.put, List.setIfInBounds_toArray, List.set_cons_zero, List.set_cons_succ]
         refine AnyT.ready (rs := [11]) (by kernel_rfl) (by simp) (AllT.step rfl (fun K hK => ?b13911) AllT.nil)
         case b13911 =>
          (refine Kd.R_lit_step Kd.string (w0 := w) w.heap.size 9 (by rfl) (N := 57) (by rfl) (xs := [t0, t1]) (inner := [.string t0, .string t1]) (ok := fun _ => True) (okp := fun _ => True) ?hr (reps_texts _ _ _ [t0, t1]) (fun _ h => h) trivial HB.out HB.out.size (by simp) ?_; (case hr => first | (go_simp; done) | (go_simp; rfl)); intro vx w9 ho hb hg hat; (try replace FA := Aside0.mk (Kd.R_grown FA.out hg (fun _ _ => by simp))); (try replace FL := Aside0.mk (Kd.R_grown FL.out hg (fun _ _ => by simp))); replace FN := Aside0.mk (Kd.R_grown FN.out hg (fun _ _ => by simp)); replace FT := Aside0.mk (Kd.R_grown FT.out hg (fun _ _ => by simp)); replace HPB := Aside0.mk (blk_grown HPB.out hg (by simp)); replace H7 := Aside0.mk (blk_grown H7.out hg (by simp)); replace HL := Aside0.mk (blk_grown HL.out hg (by simp)); replace HB := Aside0.mk hb; obtain ⟨A57, c57, e9⟩ := Kd.R_slice ho; subst e9; have FL := Aside0.mk ho; clear ho hb hg hat)
          refine hK.out _ _ ?_ ?_
          ·intro _; exact ⟨HPB.out, H7.out⟩
          clear hK K
          try simp only [Act.put, List.setIfInBounds_toArray, List.set_cons_zero, List.set_cons_succ]
          refine AnyT.ready (rs := [12]) (by kernel_rfl) (by simp) (AllT.step rfl (fun K hK => ?b14112) AllT.nil)
          case b14112 =>
           (refine Kd.R_append_rows_step Kd.string (w0 := w) w.heap.size (by rfl) (.tmp 52) (.tmp 57) 29 9 (.string ⟨#[]⟩) 16 (by rfl) Try.underlying29 info9 rfl (by decide) (by omega) (.slice AT ts.length cT) ts [t0, t1] _ _ _ (fun _ => True) (fun _ => False) (by rfl) (by rfl) FT.out (Kd.R_reads' FL.out).2.2 (fun _ _ h => h) (fun _ h => h.elim) (fun _ _ => trivial) HB.out HB.out.size (by have h1 := HXL.out; have h2 := HTL.out; simp only [List.length_cons, List.length_nil]; omega) ?_; intro vx w9 ho hb hg hat; (try replace FN := Aside0.mk (Kd.R_over FN.out FT.out (by decide) hg)); replace HPB := Aside0.mk (blk_grown HPB.out hg (Kd.R_ne FT.out HPB.out (by decide))); replace H7 := Aside0.mk (blk_grown H7.out hg (Kd.R_ne FT.out H7.out (by decide))); replace HL := Aside0.mk (blk_grown HL.out hg (Kd.R_ne FT.out HL.out (by decide))); replace HB := Aside0.mk hb; obtain ⟨A58, c58, e9⟩ := Kd.R_slice ho; simp only [List.length_append, List.length_cons, List.length_nil, Nat.zero_add, Nat.reduceAdd] at e9; subst e9; replace FT := Aside0.mk ho; clear ho hb hg hat FL)
           refine hK.out _ _ ?_ ?_
           ·intro _; exact ⟨HPB.out, H7.out⟩
           clear hK K
           try simp only [Act.put, List.setIfInBounds_toArray, List.set_cons_zero, List.set_cons_succ]
           refine AnyT.ready (rs := [14]) (by kernel_rfl) (by simp) (AllT.step rfl (fun K hK => ?b14314) AllT.nil)
           case b14314 =>
            (have hs0 : w9.cell? ⟨gp, 0, none⟩ = some (.slice AN xs.length cN) := (blk_cell HPB.out 0).trans rfl; have hf0 := blk_frozen HPB.out 0; go_simp)
            refine hK.out _ _ ?_ ?_
            ·exact past (by kernel_rfl)
            clear hK K
            try simp only [Act.put, List.setIfInBounds_toArray, List.set_cons_zero, List.set_cons_succ]
            refine AnyT.ready (rs := [15]) (by kernel_rfl) (by simp) (AllT.step rfl (fun K hK => ?b14515) AllT.nil)
            case b14515 =>
             go_simp
             refine hK.out _ _ ?_ ?_
             ·exact past (by kernel_rfl)
             clear hK K
             try simp only [Act.put, List.setIfInBounds_toArray, List.set_cons_zero, List.set_cons_succ]
             refine AnyT.ready (rs := [16]) (by kernel_rfl) (by simp) (AllT.step rfl (fun K hK => ?b14716) AllT.nil)
             case b14716 =>
              (have hs1 : (w9.setCell ⟨gp, 0, none⟩ (.slice A50 (xs.length + 1) c50)).cell? ⟨gp, 1, none⟩ = some (.slice AT ts.length cT) := (blk_cell (blk_set HPB.out 0 (.slice A50 (xs.length + 1) c50)) 1).trans rfl; have hf1 := blk_frozen (blk_set HPB.out 0 (.slice A50 (xs.length + 1) c50)) 1; go_simp)
              refine hK.out _ _ ?_ ?_
              ·exact past (by kernel_rfl)
              clear hK K
              try simp only [Act.put, List.setIfInBounds_toArray, List.set_cons_zero, List.set_cons_succ]
              refine AnyT.done (by kernel_rfl) ?_ _
              refine NoPanic.normal ?_
              (have HE := Aside0.mk (PE.of HL.out HB.out FN.out FT.out HPB.out HG.out); have hm := Aside0.mk (round_less hx.out HLT.out); clear FN FT HPB HB H7 HL HG; go_wp2; rw [HW.out]; exact ⟨⟨i + 1, x + 1, xs ++ [1], ts ++ [t0, t1], _, _, rfl, HI, ⟨HLT.out⟩, ⟨HXS.out.symm⟩, ⟨HTS.out.symm⟩, HE⟩, hm.out⟩)
        case b13611 =>
         (refine Kd.R_lit_step Kd.string (w0 := w) w.heap.size 9 (by rfl) (N := 57) (by rfl) (xs := [t0, t1]) (inner := [.string t0, .string t1]) (ok := fun _ => True) (okp := fun _ => True) ?hr (reps_texts _ _ _ [t0, t1]) (fun _ h => h) trivial HB.out HB.out.size (by simp) ?_; (case hr => first | (go_simp; done) | (go_simp; rfl)); intro vx w9 ho hb hg hat; (try replace FA := Aside0.mk (Kd.R_grown FA.out hg (fun _ _ => by simp))); (try replace FL := Aside0.mk (Kd.R_grown FL.out hg (fun _ _ => by simp))); replace FN := Aside0.mk (Kd.R_grown FN.out hg (fun _ _ => by simp)); replace FT := Aside0.mk (Kd.R_grown FT.out hg (fun _ _ => by simp)); replace HPB := Aside0.mk (blk_grown HPB.out hg (by simp)); replace H7 := Aside0.mk (blk_grown H7.out hg (by simp)); replace HL := Aside0.mk (blk_grown HL.out hg (by simp)); replace HB := Aside0.mk hb; obtain ⟨A57, c57, e9⟩ := Kd.R_slice ho; subst e9; have FL := Aside0.mk ho; clear ho hb hg hat)
         refine hK.out _ _ ?_ ?_
         ·intro _; exact ⟨HPB.out, H7.out⟩
         clear hK K
         try simp only [Act.put, List.setIfInBounds_toArray, List.set_cons_zero, List.set_cons_succ]
         refine AnyT.ready (rs := [4]) (by kernel_rfl) (by simp) (AllT.step rfl (fun K hK => ?b15104) AllT.nil)
         case b15104 =>
          (refine Kd.R_append_rows_step (Kd.int .i64) (w0 := w) w.heap.size (by rfl) (.tmp 47) (.tmp 49) 39 3 (.int .i64 0) 8 (by rfl) Try.underlying39 info3 rfl (by decide) (by omega) (.slice AN xs.length cN) xs [1] _ _ _ (fun _ => True) (fun _ => False) (by rfl) (by rfl) FN.out (Kd.R_reads' FA.out).2.2 (fun _ _ h => h) (fun _ h => h.elim) (fun _ _ => trivial) HB.out HB.out.size (by have h1 := HXL.out; have h2 := HTL.out; simp only [List.length_cons, List.length_nil]; omega) ?_; intro vx w9 ho hb hg hat; (try replace FT := Aside0.mk (Kd.R_over FT.out FN.out (by decide) hg)); (try replace FL := Aside0.mk (Kd.R_over FL.out FN.out (by decide) hg)); replace HPB := Aside0.mk (blk_grown HPB.out hg (Kd.R_ne FN.out HPB.out (by decide))); replace H7 := Aside0.mk (blk_grown H7.out hg (Kd.R_ne FN.out H7.out (by decide))); replace HL := Aside0.mk (blk_grown HL.out hg (Kd.R_ne FN.out HL.out (by decide))); replace HB := Aside0.mk hb; obtain ⟨A50, c50, e9⟩ := Kd.R_slice ho; simp only [List.length_append, List.length_cons, List.length_nil, Nat.zero_add, Nat.reduceAdd] at e9; subst e9; replace FN := Aside0.mk ho; clear ho hb hg hat FA)
          refine hK.out _ _ ?_ ?_
          ·intro _; exact ⟨HPB.out, H7.out⟩
          clear hK K
          try simp only [Act.put, List.setIfInBounds_toArray, List.set_cons_zero, List.set_cons_succ]
          refine AnyT.taken (i := 13) (v := ?v153) rfl (by kernel_rfl) (by kernel_rfl) (by kernel_rfl) (by kernel_rfl) (fun _ _ _ h => h) (Or.inl ⟨by rfl, ?y153⟩) ?s153 ?_
          case y153 =>
           intro wSW hSW
           (have y0 : wSW.cell? ⟨gp, 0, none⟩ = some (.slice AN xs.length cN) := (blk_cell hSW.1 0).trans rfl; have y1 : wSW.cell? ⟨gp, 1, none⟩ = some (.slice AT ts.length cT) := (blk_cell hSW.1 1).trans rfl; have y2 : wSW.cell? ⟨g7, 0, none⟩ = some (.string t0) := (blk_cell hSW.2 0).trans rfl; have y3 : wSW.cell? ⟨g7, 1, none⟩ = some (.string t1) := (blk_cell hSW.2 1).trans rfl; go_simp)
           all_goals with_reducible rfl
          case s153 => exact ⟨HPB.out, H7.out⟩
          try simp only [Act.put, List.setIfInBounds_toArray, List.set_cons_zero, List.set_cons_succ]
          refine AnyT.ready (rs := [12]) (by kernel_rfl) (by simp) (AllT.step rfl (fun K hK => ?b15412) AllT.nil)
          case b15412 =>
           (refine Kd.R_append_rows_step Kd.string (w0 := w) w.heap.size (by rfl) (.tmp 52) (.tmp 57) 29 9 (.string ⟨#[]⟩) 16 (by rfl) Try.underlying29 info9 rfl (by decide) (by omega) (.slice AT ts.length cT) ts [t0, t1] _ _ _ (fun _ => True) (fun _ => False) (by rfl) (by rfl) FT.out (Kd.R_reads' FL.out).2.2 (fun _ _ h => h) (fun _ h => h.elim) (fun _ _ => trivial) HB.out HB.out.size (by have h1 := HXL.out; have h2 := HTL.out; simp only [List.length_cons, List.length_nil]; omega) ?_; intro vx w9 ho hb hg hat; (try replace FN := Aside0.mk (Kd.R_over FN.out FT.out (by decide) hg)); replace HPB := Aside0.mk (blk_grown HPB.out hg (Kd.R_ne FT.out HPB.out (by decide))); replace H7 := Aside0.mk (blk_grown H7.out hg (Kd.R_ne FT.out H7.out (by decide))); replace HL := Aside0.mk (blk_grown HL.out hg (Kd.R_ne FT.out HL.out (by decide))); replace HB := Aside0.mk hb; obtain ⟨A58, c58, e9⟩ := Kd.R_slice ho; simp only [List.length_append, List.length_cons, List.length_nil, Nat.zero_add, Nat.reduceAdd] at e9; subst e9; replace FT := Aside0.mk ho; clear ho hb hg hat FL)
           refine hK.out _ _ ?_ ?_
           ·intro _; exact ⟨HPB.out, H7.out⟩
           clear hK K
           try simp only [Act.put, List.setIfInBounds_toArray, List.set_cons_zero, List.set_cons_succ]
           refine AnyT.ready (rs := [14]) (by kernel_rfl) (by simp) (AllT.step rfl (fun K hK => ?b15614) AllT.nil)
           case b15614 =>
            (have hs0 : w9.cell? ⟨gp, 0, none⟩ = some (.slice AN xs.length cN) := (blk_cell HPB.out 0).trans rfl; have hf0 := blk_frozen HPB.out 0; go_simp)
            refine hK.out _ _ ?_ ?_
            ·exact past (by kernel_rfl)
            clear hK K
            try simp only [Act.put, List.setIfInBounds_toArray, List.set_cons_zero, List.set_cons_succ]
            refine AnyT.ready (rs := [15]) (by kernel_rfl) (by simp) (AllT.step rfl (fun K hK => ?b15815) AllT.nil)
            case b15815 =>
             go_simp
             refine hK.out _ _ ?_ ?_
             ·exact past (by kernel_rfl)
             clear hK K
             try simp only [Act.put, List.setIfInBounds_toArray, List.set_cons_zero, List.set_cons_succ]
             refine AnyT.ready (rs := [16]) (by kernel_rfl) (by simp) (AllT.step rfl (fun K hK => ?b16016) AllT.nil)
             case b16016 =>
              (have hs1 : (w9.setCell ⟨gp, 0, none⟩ (.slice A50 (xs.length + 1) c50)).cell? ⟨gp, 1, none⟩ = some (.slice AT ts.length cT) := (blk_cell (blk_set HPB.out 0 (.slice A50 (xs.length + 1) c50)) 1).trans rfl; have hf1 := blk_frozen (blk_set HPB.out 0 (.slice A50 (xs.length + 1) c50)) 1; go_simp)
              refine hK.out _ _ ?_ ?_
              ·exact past (by kernel_rfl)
              clear hK K
              try simp only [Act.put, List.setIfInBounds_toArray, List.set_cons_zero, List.set_cons_succ]
              refine AnyT.done (by kernel_rfl) ?_ _
              refine NoPanic.normal ?_
              (have HE := Aside0.mk (PE.of HL.out HB.out FN.out FT.out HPB.out HG.out); have hm := Aside0.mk (round_less hx.out HLT.out); clear FN FT HPB HB H7 HL HG; go_wp2; rw [HW.out]; exact ⟨⟨i + 1, x + 1, xs ++ [1], ts ++ [t0, t1], _, _, rfl, HI, ⟨HLT.out⟩, ⟨HXS.out.symm⟩, ⟨HTS.out.symm⟩, HE⟩, hm.out⟩)
       case b13411 =>
        (refine Kd.R_lit_step Kd.string (w0 := w) w.heap.size 9 (by rfl) (N := 57) (by rfl) (xs := [t0, t1]) (inner := [.string t0, .string t1]) (ok := fun _ => True) (okp := fun _ => True) ?hr (reps_texts _ _ _ [t0, t1]) (fun _ h => h) trivial HB.out HB.out.size (by simp) ?_; (case hr => first | (go_simp; done) | (go_simp; rfl)); intro vx w9 ho hb hg hat; (try replace FA := Aside0.mk (Kd.R_grown FA.out hg (fun _ _ => by simp))); (try replace FL := Aside0.mk (Kd.R_grown FL.out hg (fun _ _ => by simp))); replace FN := Aside0.mk (Kd.R_grown FN.out hg (fun _ _ => by simp)); replace FT := Aside0.mk (Kd.R_grown FT.out hg (fun _ _ => by simp)); replace HPB := Aside0.mk (blk_grown HPB.out hg (by simp)); replace H7 := Aside0.mk (blk_grown H7.out hg (by simp)); replace HL := Aside0.mk (blk_grown HL.out hg (by simp)); replace HB := Aside0.mk hb; obtain ⟨A57, c57, e9⟩ := Kd.R_slice ho; subst e9; have FL := Aside0.mk ho; clear ho hb hg hat)
        refine hK.out _ _ ?_ ?_
        ·intro _; exact ⟨HPB.out, H7.out⟩
        clear hK K
        try simp only [Act.put, List.setIfInBounds_toArray, List.set_cons_zero, List.set_cons_succ]
        refine AnyT.ready (rs := [3]) (by kernel_rfl) (by simp) (AllT.step rfl (fun K hK => ?b16403) AllT.nil)
        case b16403 =>
         (refine Kd.R_lit_step (Kd.int .i64) (w0 := w) w.heap.size 3 (by rfl) (N := 49) (by rfl) (xs := [1]) (inner := [.int .i64 1]) (ok := fun _ => True) (okp := fun _ => True) ?hr (reps_ints _ _ _ [1]) (fun _ h => h) trivial HB.out HB.out.size (by simp) ?_; (case hr => first | (go_simp; done) | (go_simp; rfl)); intro vx w9 ho hb hg hat; (try replace FA := Aside0.mk (Kd.R_grown FA.out hg (fun _ _ => by simp))); (try replace FL := Aside0.mk (Kd.R_grown FL.out hg (fun _ _ => by simp))); replace FN := Aside0.mk (Kd.R_grown FN.out hg (fun _ _ => by simp)); replace FT := Aside0.mk (Kd.R_grown FT.out hg (fun _ _ => by simp)); replace HPB := Aside0.mk (blk_grown HPB.out hg (by simp)); replace H7 := Aside0.mk (blk_grown H7.out hg (by simp)); replace HL := Aside0.mk (blk_grown HL.out hg (by simp)); replace HB := Aside0.mk hb; obtain ⟨A49, c49, e9⟩ := Kd.R_slice ho; subst e9; have FA := Aside0.mk ho; clear ho hb hg hat)
         refine hK.out _ _ ?_ ?_
         ·intro _; exact ⟨HPB.out, H7.out⟩
         clear hK K
         try simp only [Act.put, List.setIfInBounds_toArray, List.set_cons_zero, List.set_cons_succ]
         refine AnyT.ready (rs := [4]) (by kernel_rfl) (by simp) (AllT.step rfl (fun K hK => ?b16604) AllT.nil)
         case b16604 =>
          (refine Kd.R_append_rows_step (Kd.int .i64) (w0 := w) w.heap.size (by rfl) (.tmp 47) (.tmp 49) 39 3 (.int .i64 0) 8 (by rfl) Try.underlying39 info3 rfl (by decide) (by omega) (.slice AN xs.length cN) xs [1] _ _ _ (fun _ => True) (fun _ => False) (by rfl) (by rfl) FN.out (Kd.R_reads' FA.out).2.2 (fun _ _ h => h) (fun _ h => h.elim) (fun _ _ => trivial) HB.out HB.out.size (by have h1 := HXL.out; have h2 := HTL.out; simp only [List.length_cons, List.length_nil]; omega) ?_; intro vx w9 ho hb hg hat; (try replace FT := Aside0.mk (Kd.R_over FT.out FN.out (by decide) hg)); (try replace FL := Aside0.mk (Kd.R_over FL.out FN.out (by decide) hg)); replace HPB := Aside0.mk (blk_grown HPB.out hg (Kd.R_ne FN.out HPB.out (by decide))); replace H7 := Aside0.mk (blk_grown H7.out hg (Kd.R_ne FN.out H7.out (by decide))); replace HL := Aside0.mk (blk_grown HL.out hg (Kd.R_ne FN.out HL.out (by decide))); replace HB := Aside0.mk hb; obtain ⟨A50, c50, e9⟩ := Kd.R_slice ho; simp only [List.length_append, List.length_cons, List.length_nil, Nat.zero_add, Nat.reduceAdd] at e9; subst e9; replace FN := Aside0.mk ho; clear ho hb hg hat FA)
          refine hK.out _ _ ?_ ?_
          ·intro _; exact ⟨HPB.out, H7.out⟩
          clear hK K
          try simp only [Act.put, List.setIfInBounds_toArray, List.set_cons_zero, List.set_cons_succ]
          refine AnyT.taken (i := 13) (v := ?v168) rfl (by kernel_rfl) (by kernel_rfl) (by kernel_rfl) (by kernel_rfl) (fun _ _ _ h => h) (Or.inl ⟨by rfl, ?y168⟩) ?s168 ?_
          case y168 =>
           intro wSW hSW
           (have y0 : wSW.cell? ⟨gp, 0, none⟩ = some (.slice AN xs.length cN) := (blk_cell hSW.1 0).trans rfl; have y1 : wSW.cell? ⟨gp, 1, none⟩ = some (.slice AT ts.length cT) := (blk_cell hSW.1 1).trans rfl; have y2 : wSW.cell? ⟨g7, 0, none⟩ = some (.string t0) := (blk_cell hSW.2 0).trans rfl; have y3 : wSW.cell? ⟨g7, 1, none⟩ = some (.string t1) := (blk_cell hSW.2 1).trans rfl; go_simp)
           all_goals with_reducible rfl
          case s168 => exact ⟨HPB.out, H7.out⟩
          try simp only [Act.put, List.setIfInBounds_toArray, List.set_cons_zero, List.set_cons_succ]
          refine AnyT.ready (rs := [12]) (by kernel_rfl) (by simp) (AllT.step rfl (fun K hK => ?b16912) AllT.nil)
          case b16912 =>
           (refine Kd.R_append_rows_step Kd.string (w0 := w) w.heap.size (by rfl) (.tmp 52) (.tmp 57) 29 9 (.string ⟨#[]⟩) 16 (by rfl) Try.underlying29 info9 rfl (by decide) (by omega) (.slice AT ts.length cT) ts [t0, t1] _ _ _ (fun _ => True) (fun _ => False) (by rfl) (by rfl) FT.out (Kd.R_reads' FL.out).2.2 (fun _ _ h => h) (fun _ h => h.elim) (fun _ _ => trivial) HB.out HB.out.size (by have h1 := HXL.out; have h2 := HTL.out; simp only [List.length_cons, List.length_nil]; omega) ?_; intro vx w9 ho hb hg hat; (try replace FN := Aside0.mk (Kd.R_over FN.out FT.out (by decide) hg)); replace HPB := Aside0.mk (blk_grown HPB.out hg (Kd.R_ne FT.out HPB.out (by decide))); replace H7 := Aside0.mk (blk_grown H7.out hg (Kd.R_ne FT.out H7.out (by decide))); replace HL := Aside0.mk (blk_grown HL.out hg (Kd.R_ne FT.out HL.out (by decide))); replace HB := Aside0.mk hb; obtain ⟨A58, c58, e9⟩ := Kd.R_slice ho; simp only [List.length_append, List.length_cons, List.length_nil, Nat.zero_add, Nat.reduceAdd] at e9; subst e9; replace FT := Aside0.mk ho; clear ho hb hg hat FL)
           refine hK.out _ _ ?_ ?_
           ·intro _; exact ⟨HPB.out, H7.out⟩
           clear hK K
           try simp only [Act.put, List.setIfInBounds_toArray, List.set_cons_zero, List.set_cons_succ]
           refine AnyT.ready (rs := [14]) (by kernel_rfl) (by simp) (AllT.step rfl (fun K hK => ?b17114) AllT.nil)
           case b17114 =>
            (have hs0 : w9.cell? ⟨gp, 0, none⟩ = some (.slice AN xs.length cN) := (blk_cell HPB.out 0).trans rfl; have hf0 := blk_frozen HPB.out 0; go_simp)
            refine hK.out _ _ ?_ ?_
            ·exact past (by kernel_rfl)
            clear hK K
            try simp only [Act.put, List.setIfInBounds_toArray, List.set_cons_zero, List.set_cons_succ]
            refine AnyT.ready (rs := [15]) (by kernel_rfl) (by simp) (AllT.step rfl (fun K hK => ?b17315) AllT.nil)
            case b17315 =>
             go_simp
             refine hK.out _ _ ?_ ?_
             ·exact past (by kernel_rfl)
             clear hK K
             try simp only [Act.put, List.setIfInBounds_toArray, List.set_cons_zero, List.set_cons_succ]
             refine AnyT.ready (rs := [16]) (by kernel_rfl) (by simp) (AllT.step rfl (fun K hK => ?b17516) AllT.nil)
             case b17516 =>
              (have hs1 : (w9.setCell ⟨gp, 0, none⟩ (.slice A50 (xs.length + 1) c50)).cell? ⟨gp, 1, none⟩ = some (.slice AT ts.length cT) := (blk_cell (blk_set HPB.out 0 (.slice A50 (xs.length + 1) c50)) 1).trans rfl; have hf1 := blk_frozen (blk_set HPB.out 0 (.slice A50 (xs.length + 1) c50)) 1; go_simp)
              refine hK.out _ _ ?_ ?_
              ·exact past (by kernel_rfl)
              clear hK K
              try simp only [Act.put, List.setIfInBounds_toArray, List.set_cons_zero, List.set_cons_succ]
              refine AnyT.done (by kernel_rfl) ?_ _
              refine NoPanic.normal ?_
              (have HE := Aside0.mk (PE.of HL.out HB.out FN.out FT.out HPB.out HG.out); have hm := Aside0.mk (round_less hx.out HLT.out); clear FN FT HPB HB H7 HL HG; go_wp2; rw [HW.out]; exact ⟨⟨i + 1, x + 1, xs ++ [1], ts ++ [t0, t1], _, _, rfl, HI, ⟨HLT.out⟩, ⟨HXS.out.symm⟩, ⟨HTS.out.symm⟩, HE⟩, hm.out⟩)
      |false =>
       have HP1 := Aside0.mk (HP.out.drew)
       go_wp2_with (first | ((with_reducible refine gate_dst (N := 7) rfl ?_); refine box_event ?hg (N := 7) ?hd (cs := #[.string (⟨#[]⟩ : ByteArray), .string (⟨#[]⟩ : ByteArray), .bool false]) (t := 72) ?hr ?_; (case hd => rfl); (case hg => rfl); (case hr => first | (go_simp; done) | (go_simp; rfl)); intro g7 hg w7 hbox hb; have HP7 := Aside0.mk (HP.out.below hb); have B7 := Aside0.mk hbox; have G7 : Aside0 (w.heap.size ≤ g7) := ⟨by rw [hg]; exact HP.out.bel.size⟩; replace hx0 := (hb.cell (World.block_lt_of_cell? _ _ hx0)).trans hx0; replace hx1 := (hb.cell (World.block_lt_of_cell? _ _ hx1)).trans hx1; replace hx2 := (hb.cell (World.block_lt_of_cell? _ _ hx2)).trans hx2; clear hg hb hbox HP; have hz0 : w7.cell? ⟨g7, 0, none⟩ = some (.string ⟨#[]⟩) := (blk_cell B7.out 0).trans rfl; have hz1 : w7.cell? ⟨g7, 1, none⟩ = some (.string ⟨#[]⟩) := (blk_cell B7.out 1).trans rfl; have hz2 : w7.cell? ⟨g7, 2, none⟩ = some (.bool false) := (blk_cell B7.out 2).trans rfl; have hzf0 := blk_frozen B7.out 0; have hzf1 := blk_frozen B7.out 1; have hzf2 := blk_frozen B7.out 2))
       have H7 := Aside0.mk (show (((w7.setCell ⟨g7, 0, none⟩ (.string t0)).setCell ⟨g7, 1, none⟩ (.string t1)).setCell ⟨g7, 2, none⟩ (.bool false)).drew.heap[g7]? = some (.cells #[.string t0, .string t1, .bool false] 72 (0, 0)) from blk_drew (blk_set (blk_set (blk_set B7.out 0 (.string t0)) 1 (.string t1)) 2 (.bool false)))
       have HPs := Aside0.mk ((((HP7.out.set B7.out G7.out 0 (.string t0)).set (blk_set B7.out 0 _) G7.out 1 (.string t1)).set (blk_set (blk_set B7.out 0 _) 1 _) G7.out 2 (.bool false)).drew)
       have HL := Aside0.mk HPs.out.bl
       have HPB := Aside0.mk HPs.out.bp
       have FN := Aside0.mk HPs.out.ns
       have FT := Aside0.mk HPs.out.ts
       have HB := Aside0.mk HPs.out.bel
       have HG := Aside0.mk HPs.out.gep
       clear HPs HP7 B7 G7 hz0 hz1 hz2 hzf0 hzf1 hzf2 hx0 hx1 hx2
       refine wp_region_noPanic ?_
       refine rt_begin (S := (fun W => W.heap[gp]? = some (.cells #[.slice AN xs.length cN, .slice AT ts.length cT] 70 (0, 0)) ∧ W.heap[g7]? = some (.cells #[.string t0, .string t1, .bool false] 72 (0, 0)))) (s := 14) (by kernel_rfl) ?_
       refine AnyT.taken (i := 0) (v := ?v178) rfl (by kernel_rfl) (by kernel_rfl) (by kernel_rfl) (by kernel_rfl) (fun _ _ _ h => h) (Or.inl ⟨by rfl, ?y178⟩) ?s178 ?_
       case y178 =>
        intro wSW hSW
        (have y0 : wSW.cell? ⟨gp, 0, none⟩ = some (.slice AN xs.length cN) := (blk_cell hSW.1 0).trans rfl; have y1 : wSW.cell? ⟨gp, 1, none⟩ = some (.slice AT ts.length cT) := (blk_cell hSW.1 1).trans rfl; have y2 : wSW.cell? ⟨g7, 0, none⟩ = some (.string t0) := (blk_cell hSW.2 0).trans rfl; have y3 : wSW.cell? ⟨g7, 1, none⟩ = some (.string t1) := (blk_cell hSW.2 1).trans rfl; go_simp)
        all_goals with_reducible rfl
       case s178 => exact ⟨HPB.out, H7.out⟩
       try simp only [Act.put, List.setIfInBounds_toArray, List.set_cons_zero, List.set_cons_succ]
       refine AnyT.taken (i := 1) (v := ?v179) rfl (by kernel_rfl) (by kernel_rfl) (by kernel_rfl) (by kernel_rfl) (fun _ _ _ h => h) (Or.inl ⟨by rfl, ?y179⟩) ?s179 ?_
       case y179 =>
        intro wSW hSW
        (have y0 : wSW.cell? ⟨gp, 0, none⟩ = some (.slice AN xs.length cN) := (blk_cell hSW.1 0).trans rfl; have y1 : wSW.cell? ⟨gp, 1, none⟩ = some (.slice AT ts.length cT) := (blk_cell hSW.1 1).trans rfl; have y2 : wSW.cell? ⟨g7, 0, none⟩ = some (.string t0) := (blk_cell hSW.2 0).trans rfl; have y3 : wSW.cell? ⟨g7, 1, none⟩ = some (.string t1) := (blk_cell hSW.2 1).trans rfl; go_simp)
        all_goals with_reducible rfl
       case s179 => exact ⟨HPB.out, H7.out⟩
       try simp only [Act.put, List.setIfInBounds_toArray, List.set_cons_zero, List.set_cons_succ]
       refine AnyT.taken (i := 2) (v := ?v180) rfl (by kernel_rfl) (by kernel_rfl) (by kernel_rfl) (by kernel_rfl) (fun _ _ _ h => h) (Or.inl ⟨by rfl, ?y180⟩) ?s180 ?_
       case y180 =>
        intro wSW hSW
        (have y0 : wSW.cell? ⟨gp, 0, none⟩ = some (.slice AN xs.length cN) := (blk_cell hSW.1 0).trans rfl; have y1 : wSW.cell? ⟨gp, 1, none⟩ = some (.slice AT ts.length cT) := (blk_cell hSW.1 1).trans rfl; have y2 : wSW.cell? ⟨g7, 0, none⟩ = some (.string t0) := (blk_cell hSW.2 0).trans rfl; have y3 : wSW.cell? ⟨g7, 1, none⟩ = some (.string t1) := (blk_cell hSW.2 1).trans rfl; go_simp)
        all_goals with_reducible rfl
       case s180 => exact ⟨HPB.out, H7.out⟩
       try simp only [Act.put, List.setIfInBounds_toArray, List.set_cons_zero, List.set_cons_succ]
       refine AnyT.taken (i := 5) (v := ?v181) rfl (by kernel_rfl) (by kernel_rfl) (by kernel_rfl) (by kernel_rfl) (fun _ _ _ h => h) (Or.inl ⟨by rfl, ?y181⟩) ?s181 ?_
       case y181 =>
        intro wSW hSW
        (have y0 : wSW.cell? ⟨gp, 0, none⟩ = some (.slice AN xs.length cN) := (blk_cell hSW.1 0).trans rfl; have y1 : wSW.cell? ⟨gp, 1, none⟩ = some (.slice AT ts.length cT) := (blk_cell hSW.1 1).trans rfl; have y2 : wSW.cell? ⟨g7, 0, none⟩ = some (.string t0) := (blk_cell hSW.2 0).trans rfl; have y3 : wSW.cell? ⟨g7, 1, none⟩ = some (.string t1) := (blk_cell hSW.2 1).trans rfl; go_simp)
        all_goals with_reducible rfl
       case s181 => exact ⟨HPB.out, H7.out⟩
       try simp only [Act.put, List.setIfInBounds_toArray, List.set_cons_zero, List.set_cons_succ]
       refine AnyT.taken (i := 6) (v := ?v182) rfl (by kernel_rfl) (by kernel_rfl) (by kernel_rfl) (by kernel_rfl) (fun _ _ _ h => h) (Or.inl ⟨by rfl, ?y182⟩) ?s182 ?_
       case y182 =>
        intro wSW hSW
        (have y0 : wSW.cell? ⟨gp, 0, none⟩ = some (.slice AN xs.length cN) := (blk_cell hSW.1 0).trans rfl; have y1 : wSW.cell? ⟨gp, 1, none⟩ = some (.slice AT ts.length cT) := (blk_cell hSW.1 1).trans rfl; have y2 : wSW.cell? ⟨g7, 0, none⟩ = some (.string t0) := (blk_cell hSW.2 0).trans rfl; have y3 : wSW.cell? ⟨g7, 1, none⟩ = some (.string t1) := (blk_cell hSW.2 1).trans rfl; go_simp)
        all_goals with_reducible rfl
       case s182 => exact ⟨HPB.out, H7.out⟩
       try simp only [Act.put, List.setIfInBounds_toArray, List.set_cons_zero, List.set_cons_succ]
       refine AnyT.taken (i := 7) (v := ?v183) rfl (by kernel_rfl) (by kernel_rfl) (by kernel_rfl) (by kernel_rfl) (fun _ _ _ h => h) (Or.inl ⟨by rfl, ?y183⟩) ?s183 ?_
       case y183 =>
        intro wSW hSW
        (have y0 : wSW.cell? ⟨gp, 0, none⟩ = some (.slice AN xs.length cN) := (blk_cell hSW.1 0).trans rfl; have y1 : wSW.cell? ⟨gp, 1, none⟩ = some (.slice AT ts.length cT) := (blk_cell hSW.1 1).trans rfl; have y2 : wSW.cell? ⟨g7, 0, none⟩ = some (.string t0) := (blk_cell hSW.2 0).trans rfl; have y3 : wSW.cell? ⟨g7, 1, none⟩ = some (.string t1) := (blk_cell hSW.2 1).trans rfl; go_simp)
        all_goals with_reducible rfl
       case s183 => exact ⟨HPB.out, H7.out⟩
       try simp only [Act.put, List.setIfInBounds_toArray, List.set_cons_zero, List.set_cons_succ]
       refine AnyT.taken (i := 8) (v := ?v184) rfl (by kernel_rfl) (by kernel_rfl) (by kernel_rfl) (by kernel_rfl) (fun _ _ _ h => h) (Or.inl ⟨by rfl, ?y184⟩) ?s184 ?_
       case y184 =>
        intro wSW hSW
        (have y0 : wSW.cell? ⟨gp, 0, none⟩ = some (.slice AN xs.length cN) := (blk_cell hSW.1 0).trans rfl; have y1 : wSW.cell? ⟨gp, 1, none⟩ = some (.slice AT ts.length cT) := (blk_cell hSW.1 1).trans rfl; have y2 : wSW.cell? ⟨g7, 0, none⟩ = some (.string t0) := (blk_cell hSW.2 0).trans rfl; have y3 : wSW.cell? ⟨g7, 1, none⟩ = some (.string t1) := (blk_cell hSW.2 1).trans rfl; go_simp)
        all_goals with_reducible rfl
       case s184 => exact ⟨HPB.out, H7.out⟩
       try simp only [Act.put, List.setIfInBounds_toArray, List.set_cons_zero, List.set_cons_succ]
       refine AnyT.taken (i := 9) (v := ?v185) rfl (by kernel_rfl) (by kernel_rfl) (by kernel_rfl) (by kernel_rfl) (fun _ _ _ h => h) (Or.inl ⟨by rfl, ?y185⟩) ?s185 ?_
       case y185 =>
        intro wSW hSW
        (have y0 : wSW.cell? ⟨gp, 0, none⟩ = some (.slice AN xs.length cN) := (blk_cell hSW.1 0).trans rfl; have y1 : wSW.cell? ⟨gp, 1, none⟩ = some (.slice AT ts.length cT) := (blk_cell hSW.1 1).trans rfl; have y2 : wSW.cell? ⟨g7, 0, none⟩ = some (.string t0) := (blk_cell hSW.2 0).trans rfl; have y3 : wSW.cell? ⟨g7, 1, none⟩ = some (.string t1) := (blk_cell hSW.2 1).trans rfl; go_simp)
        all_goals with_reducible rfl
       case s185 => exact ⟨HPB.out, H7.out⟩
       try simp only [Act.put, List.setIfInBounds_toArray, List.set_cons_zero, List.set_cons_succ]
       refine AnyT.taken (i := 10) (v := ?v186) rfl (by kernel_rfl) (by kernel_rfl) (by kernel_rfl) (by kernel_rfl) (fun _ _ _ h => h) (Or.inl ⟨by rfl, ?y186⟩) ?s186 ?_
       case y186 =>
        intro wSW hSW
        (have y0 : wSW.cell? ⟨gp, 0, none⟩ = some (.slice AN xs.length cN) := (blk_cell hSW.1 0).trans rfl; have y1 : wSW.cell? ⟨gp, 1, none⟩ = some (.slice AT ts.length cT) := (blk_cell hSW.1 1).trans rfl; have y2 : wSW.cell? ⟨g7, 0, none⟩ = some (.string t0) := (blk_cell hSW.2 0).trans rfl; have y3 : wSW.cell? ⟨g7, 1, none⟩ = some (.string t1) := (blk_cell hSW.2 1).trans rfl; go_simp)
        all_goals with_reducible rfl
       case s186 => exact ⟨HPB.out, H7.out⟩
       try simp only [Act.put, List.setIfInBounds_toArray, List.set_cons_zero, List.set_cons_succ]
       refine AnyT.ready (rs := [3, 11]) (by kernel_rfl) (by simp) (AllT.step rfl (fun K hK => ?b18703) (AllT.step rfl (fun K hK => ?b18711) AllT.nil))
       case b18703 =>
        (refine Kd.R_lit_step (Kd.int .i64) (w0 := w) w.heap.size 3 (by rfl) (N := 49) (by rfl) (xs := [0]) (inner := [.int .i64 0]) (ok := fun _ => True) (okp := fun _ => True) ?hr (reps_ints _ _ _ [0]) (fun _ h => h) trivial HB.out HB.out.size (by simp) ?_; (case hr => first | (go_simp; done) | (go_simp; rfl)); intro vx w9 ho hb hg hat; (try replace FA := Aside0.mk (Kd.R_grown FA.out hg (fun _ _ => by simp))); (try replace FL := Aside0.mk (Kd.R_grown FL.out hg (fun _ _ => by simp))); replace FN := Aside0.mk (Kd.R_grown FN.out hg (fun _ _ => by simp)); replace FT := Aside0.mk (Kd.R_grown FT.out hg (fun _ _ => by simp)); replace HPB := Aside0.mk (blk_grown HPB.out hg (by simp)); replace H7 := Aside0.mk (blk_grown H7.out hg (by simp)); replace HL := Aside0.mk (blk_grown HL.out hg (by simp)); replace HB := Aside0.mk hb; obtain ⟨A49, c49, e9⟩ := Kd.R_slice ho; subst e9; have FA := Aside0.mk ho; clear ho hb hg hat)
        refine hK.out _ _ ?_ ?_
        ·intro _; exact ⟨HPB.out, H7.out⟩
        clear hK K
        try simp only [Act.put, List.setIfInBounds_toArray, List.set_cons_zero, List.set_cons_succ]
        refine AnyT.ready (rs := [4, 11]) (by kernel_rfl) (by simp) (AllT.step rfl (fun K hK => ?b18904) (AllT.step rfl (fun K hK => ?b18911) AllT.nil))
        case b18904 =>
         (refine Kd.R_append_rows_step (Kd.int .i64) (w0 := w) w.heap.size (by rfl) (.tmp 47) (.tmp 49) 39 3 (.int .i64 0) 8 (by rfl) Try.underlying39 info3 rfl (by decide) (by omega) (.slice AN xs.length cN) xs [0] _ _ _ (fun _ => True) (fun _ => False) (by rfl) (by rfl) FN.out (Kd.R_reads' FA.out).2.2 (fun _ _ h => h) (fun _ h => h.elim) (fun _ _ => trivial) HB.out HB.out.size (by have h1 := HXL.out; have h2 := HTL.out; simp only [List.length_cons, List.length_nil]; omega) ?_; intro vx w9 ho hb hg hat; (try replace FT := Aside0.mk (Kd.R_over FT.out FN.out (by decide) hg)); (try replace FL := Aside0.mk (Kd.R_over FL.out FN.out (by decide) hg)); replace HPB := Aside0.mk (blk_grown HPB.out hg (Kd.R_ne FN.out HPB.out (by decide))); replace H7 := Aside0.mk (blk_grown H7.out hg (Kd.R_ne FN.out H7.out (by decide))); replace HL := Aside0.mk (blk_grown HL.out hg (Kd.R_ne FN.out HL.out (by decide))); replace HB := Aside0.mk hb; obtain ⟨A50, c50, e9⟩ := Kd.R_slice ho; simp only [List.length_append, List.length_cons, List.length_nil, Nat.zero_add, Nat.reduceAdd] at e9; subst e9; replace FN := Aside0.mk ho; clear ho hb hg hat FA)
         refine hK.out _ _ ?_ ?_
         ·intro _; exact ⟨HPB.out, H7.out⟩
         clear hK K
         try simp only [Act.put, List.setIfInBounds_toArray, List.set_cons_zero, List.set_cons_succ]
         refine AnyT.taken (i := 13) (v := ?v191) rfl (by kernel_rfl) (by kernel_rfl) (by kernel_rfl) (by kernel_rfl) (fun _ _ _ h => h) (Or.inl ⟨by rfl, ?y191⟩) ?s191 ?_
         case y191 =>
          intro wSW hSW
          (have y0 : wSW.cell? ⟨gp, 0, none⟩ = some (.slice AN xs.length cN) := (blk_cell hSW.1 0).trans rfl; have y1 : wSW.cell? ⟨gp, 1, none⟩ = some (.slice AT ts.length cT) := (blk_cell hSW.1 1).trans rfl; have y2 : wSW.cell? ⟨g7, 0, none⟩ = some (.string t0) := (blk_cell hSW.2 0).trans rfl; have y3 : wSW.cell? ⟨g7, 1, none⟩ = some (.string t1) := (blk_cell hSW.2 1).trans rfl; go_simp)
          all_goals with_reducible rfl
         case s191 => exact ⟨HPB.out, H7.out⟩
         try simp only [Act.put, List.setIfInBounds_toArray, List.set_cons_zero, List.set_cons_succ]
         refine AnyT.ready (rs := [11]) (by kernel_rfl) (by simp) (AllT.step rfl (fun K hK => ?b19211) AllT.nil)
         case b19211 =>
          (refine Kd.R_lit_step Kd.string (w0 := w) w.heap.size 9 (by rfl) (N := 57) (by rfl) (xs := [t0, t1]) (inner := [.string t0, .string t1]) (ok := fun _ => True) (okp := fun _ => True) ?hr (reps_texts _ _ _ [t0, t1]) (fun _ h => h) trivial HB.out HB.out.size (by simp) ?_; (case hr => first | (go_simp; done) | (go_simp; rfl)); intro vx w9 ho hb hg hat; (try replace FA := Aside0.mk (Kd.R_grown FA.out hg (fun _ _ => by simp))); (try replace FL := Aside0.mk (Kd.R_grown FL.out hg (fun _ _ => by simp))); replace FN := Aside0.mk (Kd.R_grown FN.out hg (fun _ _ => by simp)); replace FT := Aside0.mk (Kd.R_grown FT.out hg (fun _ _ => by simp)); replace HPB := Aside0.mk (blk_grown HPB.out hg (by simp)); replace H7 := Aside0.mk (blk_grown H7.out hg (by simp)); replace HL := Aside0.mk (blk_grown HL.out hg (by simp)); replace HB := Aside0.mk hb; obtain ⟨A57, c57, e9⟩ := Kd.R_slice ho; subst e9; have FL := Aside0.mk ho; clear ho hb hg hat)
          refine hK.out _ _ ?_ ?_
          ·intro _; exact ⟨HPB.out, H7.out⟩
          clear hK K
          try simp only [Act.put, List.setIfInBounds_toArray, List.set_cons_zero, List.set_cons_succ]
          refine AnyT.ready (rs := [12]) (by kernel_rfl) (by simp) (AllT.step rfl (fun K hK => ?b19412) AllT.nil)
          case b19412 =>
           (refine Kd.R_append_rows_step Kd.string (w0 := w) w.heap.size (by rfl) (.tmp 52) (.tmp 57) 29 9 (.string ⟨#[]⟩) 16 (by rfl) Try.underlying29 info9 rfl (by decide) (by omega) (.slice AT ts.length cT) ts [t0, t1] _ _ _ (fun _ => True) (fun _ => False) (by rfl) (by rfl) FT.out (Kd.R_reads' FL.out).2.2 (fun _ _ h => h) (fun _ h => h.elim) (fun _ _ => trivial) HB.out HB.out.size (by have h1 := HXL.out; have h2 := HTL.out; simp only [List.length_cons, List.length_nil]; omega) ?_; intro vx w9 ho hb hg hat; (try replace FN := Aside0.mk (Kd.R_over FN.out FT.out (by decide) hg)); replace HPB := Aside0.mk (blk_grown HPB.out hg (Kd.R_ne FT.out HPB.out (by decide))); replace H7 := Aside0.mk (blk_grown H7.out hg (Kd.R_ne FT.out H7.out (by decide))); replace HL := Aside0.mk (blk_grown HL.out hg (Kd.R_ne FT.out HL.out (by decide))); replace HB := Aside0.mk hb; obtain ⟨A58, c58, e9⟩ := Kd.R_slice ho; simp only [List.length_append, List.length_cons, List.length_nil, Nat.zero_add, Nat.reduceAdd] at e9; subst e9; replace FT := Aside0.mk ho; clear ho hb hg hat FL)
           refine hK.out _ _ ?_ ?_
           ·intro _; exact ⟨HPB.out, H7.out⟩
           clear hK K
           try simp only [Act.put, List.setIfInBounds_toArray, List.set_cons_zero, List.set_cons_succ]
           refine AnyT.ready (rs := [14]) (by kernel_rfl) (by simp) (AllT.step rfl (fun K hK => ?b19614) AllT.nil)
           case b19614 =>
            (have hs0 : w9.cell? ⟨gp, 0, none⟩ = some (.slice AN xs.length cN) := (blk_cell HPB.out 0).trans rfl; have hf0 := blk_frozen HPB.out 0; go_simp)
            refine hK.out _ _ ?_ ?_
            ·exact past (by kernel_rfl)
            clear hK K
            try simp only [Act.put, List.setIfInBounds_toArray, List.set_cons_zero, List.set_cons_succ]
            refine AnyT.ready (rs := [15]) (by kernel_rfl) (by simp) (AllT.step rfl (fun K hK => ?b19815) AllT.nil)
            case b19815 =>
             go_simp
             refine hK.out _ _ ?_ ?_
             ·exact past (by kernel_rfl)
             clear hK K
             try simp only [Act.put, List.setIfInBounds_toArray, List.set_cons_zero, List.set_cons_succ]
             refine AnyT.ready (rs := [16]) (by kernel_rfl) (by simp) (AllT.step rfl (fun K hK => ?b20016) AllT.nil)
             case b20016 =>
              (have hs1 : (w9.setCell ⟨gp, 0, none⟩ (.slice A50 (xs.length + 1) c50)).cell? ⟨gp, 1, none⟩ = some (.slice AT ts.length cT) := (blk_cell (blk_set HPB.out 0 (.slice A50 (xs.length + 1) c50)) 1).trans rfl; have hf1 := blk_frozen (blk_set HPB.out 0 (.slice A50 (xs.length + 1) c50)) 1; go_simp)
              refine hK.out _ _ ?_ ?_
              ·exact past (by kernel_rfl)
              clear hK K
              try simp only [Act.put, List.setIfInBounds_toArray, List.set_cons_zero, List.set_cons_succ]
              refine AnyT.done (by kernel_rfl) ?_ _
              refine NoPanic.normal ?_
              (have HE := Aside0.mk (PE.of HL.out HB.out FN.out FT.out HPB.out HG.out); have hm := Aside0.mk (round_less hx.out HLT.out); clear FN FT HPB HB H7 HL HG; go_wp2; rw [HW.out]; exact ⟨⟨i + 1, x + 1, xs ++ [0], ts ++ [t0, t1], _, _, rfl, HI, ⟨HLT.out⟩, ⟨HXS.out.symm⟩, ⟨HTS.out.symm⟩, HE⟩, hm.out⟩)
        case b18911 =>
         (refine Kd.R_lit_step Kd.string (w0 := w) w.heap.size 9 (by rfl) (N := 57) (by rfl) (xs := [t0, t1]) (inner := [.string t0, .string t1]) (ok := fun _ => True) (okp := fun _ => True) ?hr (reps_texts _ _ _ [t0, t1]) (fun _ h => h) trivial HB.out HB.out.size (by simp) ?_; (case hr => first | (go_simp; done) | (go_simp; rfl)); intro vx w9 ho hb hg hat; (try replace FA := Aside0.mk (Kd.R_grown FA.out hg (fun _ _ => by simp))); (try replace FL := Aside0.mk (Kd.R_grown FL.out hg (fun _ _ => by simp))); replace FN := Aside0.mk (Kd.R_grown FN.out hg (fun _ _ => by simp)); replace FT := Aside0.mk (Kd.R_grown FT.out hg (fun _ _ => by simp)); replace HPB := Aside0.mk (blk_grown HPB.out hg (by simp)); replace H7 := Aside0.mk (blk_grown H7.out hg (by simp)); replace HL := Aside0.mk (blk_grown HL.out hg (by simp)); replace HB := Aside0.mk hb; obtain ⟨A57, c57, e9⟩ := Kd.R_slice ho; subst e9; have FL := Aside0.mk ho; clear ho hb hg hat)
         refine hK.out _ _ ?_ ?_
         ·intro _; exact ⟨HPB.out, H7.out⟩
         clear hK K
         try simp only [Act.put, List.setIfInBounds_toArray, List.set_cons_zero, List.set_cons_succ]
         refine AnyT.ready (rs := [4]) (by kernel_rfl) (by simp) (AllT.step rfl (fun K hK => ?b20404) AllT.nil)
         case b20404 =>
          (refine Kd.R_append_rows_step (Kd.int .i64) (w0 := w) w.heap.size (by rfl) (.tmp 47) (.tmp 49) 39 3 (.int .i64 0) 8 (by rfl) Try.underlying39 info3 rfl (by decide) (by omega) (.slice AN xs.length cN) xs [0] _ _ _ (fun _ => True) (fun _ => False) (by rfl) (by rfl) FN.out (Kd.R_reads' FA.out).2.2 (fun _ _ h => h) (fun _ h => h.elim) (fun _ _ => trivial) HB.out HB.out.size (by have h1 := HXL.out; have h2 := HTL.out; simp only [List.length_cons, List.length_nil]; omega) ?_; intro vx w9 ho hb hg hat; (try replace FT := Aside0.mk (Kd.R_over FT.out FN.out (by decide) hg)); (try replace FL := Aside0.mk (Kd.R_over FL.out FN.out (by decide) hg)); replace HPB := Aside0.mk (blk_grown HPB.out hg (Kd.R_ne FN.out HPB.out (by decide))); replace H7 := Aside0.mk (blk_grown H7.out hg (Kd.R_ne FN.out H7.out (by decide))); replace HL := Aside0.mk (blk_grown HL.out hg (Kd.R_ne FN.out HL.out (by decide))); replace HB := Aside0.mk hb; obtain ⟨A50, c50, e9⟩ := Kd.R_slice ho; simp only [List.length_append, List.length_cons, List.length_nil, Nat.zero_add, Nat.reduceAdd] at e9; subst e9; replace FN := Aside0.mk ho; clear ho hb hg hat FA)
          refine hK.out _ _ ?_ ?_
          ·intro _; exact ⟨HPB.out, H7.out⟩
          clear hK K
          try simp only [Act.put, List.setIfInBounds_toArray, List.set_cons_zero, List.set_cons_succ]
          refine AnyT.taken (i := 13) (v := ?v206) rfl (by kernel_rfl) (by kernel_rfl) (by kernel_rfl) (by kernel_rfl) (fun _ _ _ h => h) (Or.inl ⟨by rfl, ?y206⟩) ?s206 ?_
          case y206 =>
           intro wSW hSW
           (have y0 : wSW.cell? ⟨gp, 0, none⟩ = some (.slice AN xs.length cN) := (blk_cell hSW.1 0).trans rfl; have y1 : wSW.cell? ⟨gp, 1, none⟩ = some (.slice AT ts.length cT) := (blk_cell hSW.1 1).trans rfl; have y2 : wSW.cell? ⟨g7, 0, none⟩ = some (.string t0) := (blk_cell hSW.2 0).trans rfl; have y3 : wSW.cell? ⟨g7, 1, none⟩ = some (.string t1) := (blk_cell hSW.2 1).trans rfl; go_simp)
           all_goals with_reducible rfl
          case s206 => exact ⟨HPB.out, H7.out⟩
          try simp only [Act.put, List.setIfInBounds_toArray, List.set_cons_zero, List.set_cons_succ]
          refine AnyT.ready (rs := [12]) (by kernel_rfl) (by simp) (AllT.step rfl (fun K hK => ?b20712) AllT.nil)
          case b20712 =>
           (refine Kd.R_append_rows_step Kd.string (w0 := w) w.heap.size (by rfl) (.tmp 52) (.tmp 57) 29 9 (.string ⟨#[]⟩) 16 (by rfl) Try.underlying29 info9 rfl (by decide) (by omega) (.slice AT ts.length cT) ts [t0, t1] _ _ _ (fun _ => True) (fun _ => False) (by rfl) (by rfl) FT.out (Kd.R_reads' FL.out).2.2 (fun _ _ h => h) (fun _ h => h.elim) (fun _ _ => trivial) HB.out HB.out.size (by have h1 := HXL.out; have h2 := HTL.out; simp only [List.length_cons, List.length_nil]; omega) ?_; intro vx w9 ho hb hg hat; (try replace FN := Aside0.mk (Kd.R_over FN.out FT.out (by decide) hg)); replace HPB := Aside0.mk (blk_grown HPB.out hg (Kd.R_ne FT.out HPB.out (by decide))); replace H7 := Aside0.mk (blk_grown H7.out hg (Kd.R_ne FT.out H7.out (by decide))); replace HL := Aside0.mk (blk_grown HL.out hg (Kd.R_ne FT.out HL.out (by decide))); replace HB := Aside0.mk hb; obtain ⟨A58, c58, e9⟩ := Kd.R_slice ho; simp only [List.length_append, List.length_cons, List.length_nil, Nat.zero_add, Nat.reduceAdd] at e9; subst e9; replace FT := Aside0.mk ho; clear ho hb hg hat FL)
           refine hK.out _ _ ?_ ?_
           ·intro _; exact ⟨HPB.out, H7.out⟩
           clear hK K
           try simp only [Act.put, List.setIfInBounds_toArray, List.set_cons_zero, List.set_cons_succ]
           refine AnyT.ready (rs := [14]) (by kernel_rfl) (by simp) (AllT.step rfl (fun K hK => ?b20914) AllT.nil)
           case b20914 =>
            (have hs0 : w9.cell? ⟨gp, 0, none⟩ = some (.slice AN xs.length cN) := (blk_cell HPB.out 0).trans rfl; have hf0 := blk_frozen HPB.out 0; go_simp)
            refine hK.out _ _ ?_ ?_
            ·exact past (by kernel_rfl)
            clear hK K
            try simp only [Act.put, List.setIfInBounds_toArray, List.set_cons_zero, List.set_cons_succ]
            refine AnyT.ready (rs := [15]) (by kernel_rfl) (by simp) (AllT.step rfl (fun K hK => ?b21115) AllT.nil)
            case b21115 =>
             go_simp
             refine hK.out _ _ ?_ ?_
             ·exact past (by kernel_rfl)
             clear hK K
             try simp only [Act.put, List.setIfInBounds_toArray, List.set_cons_zero, List.set_cons_succ]
             refine AnyT.ready (rs := [16]) (by kernel_rfl) (by simp) (AllT.step rfl (fun K hK => ?b21316) AllT.nil)
             case b21316 =>
              (have hs1 : (w9.setCell ⟨gp, 0, none⟩ (.slice A50 (xs.length + 1) c50)).cell? ⟨gp, 1, none⟩ = some (.slice AT ts.length cT) := (blk_cell (blk_set HPB.out 0 (.slice A50 (xs.length + 1) c50)) 1).trans rfl; have hf1 := blk_frozen (blk_set HPB.out 0 (.slice A50 (xs.length + 1) c50)) 1; go_simp)
              refine hK.out _ _ ?_ ?_
              ·exact past (by kernel_rfl)
              clear hK K
              try simp only [Act.put, List.setIfInBounds_toArray, List.set_cons_zero, List.set_cons_succ]
              refine AnyT.done (by kernel_rfl) ?_ _
              refine NoPanic.normal ?_
              (have HE := Aside0.mk (PE.of HL.out HB.out FN.out FT.out HPB.out HG.out); have hm := Aside0.mk (round_less hx.out HLT.out); clear FN FT HPB HB H7 HL HG; go_wp2; rw [HW.out]; exact ⟨⟨i + 1, x + 1, xs ++ [0], ts ++ [t0, t1], _, _, rfl, HI, ⟨HLT.out⟩, ⟨HXS.out.symm⟩, ⟨HTS.out.symm⟩, HE⟩, hm.out⟩)
       case b18711 =>
        (refine Kd.R_lit_step Kd.string (w0 := w) w.heap.size 9 (by rfl) (N := 57) (by rfl) (xs := [t0, t1]) (inner := [.string t0, .string t1]) (ok := fun _ => True) (okp := fun _ => True) ?hr (reps_texts _ _ _ [t0, t1]) (fun _ h => h) trivial HB.out HB.out.size (by simp) ?_; (case hr => first | (go_simp; done) | (go_simp; rfl)); intro vx w9 ho hb hg hat; (try replace FA := Aside0.mk (Kd.R_grown FA.out hg (fun _ _ => by simp))); (try replace FL := Aside0.mk (Kd.R_grown FL.out hg (fun _ _ => by simp))); replace FN := Aside0.mk (Kd.R_grown FN.out hg (fun _ _ => by simp)); replace FT := Aside0.mk (Kd.R_grown FT.out hg (fun _ _ => by simp)); replace HPB := Aside0.mk (blk_grown HPB.out hg (by simp)); replace H7 := Aside0.mk (blk_grown H7.out hg (by simp)); replace HL := Aside0.mk (blk_grown HL.out hg (by simp)); replace HB := Aside0.mk hb; obtain ⟨A57, c57, e9⟩ := Kd.R_slice ho; subst e9; have FL := Aside0.mk ho; clear ho hb hg hat)
        refine hK.out _ _ ?_ ?_
        ·intro _; exact ⟨HPB.out, H7.out⟩
        clear hK K
        try simp only [Act.put, List.setIfInBounds_toArray, List.set_cons_zero, List.set_cons_succ]
        refine AnyT.ready (rs := [3]) (by kernel_rfl) (by simp) (AllT.step rfl (fun K hK => ?b21703) AllT.nil)
        case b21703 =>
         (refine Kd.R_lit_step (Kd.int .i64) (w0 := w) w.heap.size 3 (by rfl) (N := 49) (by rfl) (xs := [0]) (inner := [.int .i64 0]) (ok := fun _ => True) (okp := fun _ => True) ?hr (reps_ints _ _ _ [0]) (fun _ h => h) trivial HB.out HB.out.size (by simp) ?_; (case hr => first | (go_simp; done) | (go_simp; rfl)); intro vx w9 ho hb hg hat; (try replace FA := Aside0.mk (Kd.R_grown FA.out hg (fun _ _ => by simp))); (try replace FL := Aside0.mk (Kd.R_grown FL.out hg (fun _ _ => by simp))); replace FN := Aside0.mk (Kd.R_grown FN.out hg (fun _ _ => by simp)); replace FT := Aside0.mk (Kd.R_grown FT.out hg (fun _ _ => by simp)); replace HPB := Aside0.mk (blk_grown HPB.out hg (by simp)); replace H7 := Aside0.mk (blk_grown H7.out hg (by simp)); replace HL := Aside0.mk (blk_grown HL.out hg (by simp)); replace HB := Aside0.mk hb; obtain ⟨A49, c49, e9⟩ := Kd.R_slice ho; subst e9; have FA := Aside0.mk ho; clear ho hb hg hat)
         refine hK.out _ _ ?_ ?_
         ·intro _; exact ⟨HPB.out, H7.out⟩
         clear hK K
         try simp only [Act.put, List.setIfInBounds_toArray, List.set_cons_zero, List.set_cons_succ]
         refine AnyT.ready (rs := [4]) (by kernel_rfl) (by simp) (AllT.step rfl (fun K hK => ?b21904) AllT.nil)
         case b21904 =>
          (refine Kd.R_append_rows_step (Kd.int .i64) (w0 := w) w.heap.size (by rfl) (.tmp 47) (.tmp 49) 39 3 (.int .i64 0) 8 (by rfl) Try.underlying39 info3 rfl (by decide) (by omega) (.slice AN xs.length cN) xs [0] _ _ _ (fun _ => True) (fun _ => False) (by rfl) (by rfl) FN.out (Kd.R_reads' FA.out).2.2 (fun _ _ h => h) (fun _ h => h.elim) (fun _ _ => trivial) HB.out HB.out.size (by have h1 := HXL.out; have h2 := HTL.out; simp only [List.length_cons, List.length_nil]; omega) ?_; intro vx w9 ho hb hg hat; (try replace FT := Aside0.mk (Kd.R_over FT.out FN.out (by decide) hg)); (try replace FL := Aside0.mk (Kd.R_over FL.out FN.out (by decide) hg)); replace HPB := Aside0.mk (blk_grown HPB.out hg (Kd.R_ne FN.out HPB.out (by decide))); replace H7 := Aside0.mk (blk_grown H7.out hg (Kd.R_ne FN.out H7.out (by decide))); replace HL := Aside0.mk (blk_grown HL.out hg (Kd.R_ne FN.out HL.out (by decide))); replace HB := Aside0.mk hb; obtain ⟨A50, c50, e9⟩ := Kd.R_slice ho; simp only [List.length_append, List.length_cons, List.length_nil, Nat.zero_add, Nat.reduceAdd] at e9; subst e9; replace FN := Aside0.mk ho; clear ho hb hg hat FA)
          refine hK.out _ _ ?_ ?_
          ·intro _; exact ⟨HPB.out, H7.out⟩
          clear hK K
          try simp only [Act.put, List.setIfInBounds_toArray, List.set_cons_zero, List.set_cons_succ]
          refine AnyT.taken (i := 13) (v := ?v221) rfl (by kernel_rfl) (by kernel_rfl) (by kernel_rfl) (by kernel_rfl) (fun _ _ _ h => h) (Or.inl ⟨by rfl, ?y221⟩) ?s221 ?_
          case y221 =>
           intro wSW hSW
           (have y0 : wSW.cell? ⟨gp, 0, none⟩ = some (.slice AN xs.length cN) := (blk_cell hSW.1 0).trans rfl; have y1 : wSW.cell? ⟨gp, 1, none⟩ = some (.slice AT ts.length cT) := (blk_cell hSW.1 1).trans rfl; have y2 : wSW.cell? ⟨g7, 0, none⟩ = some (.string t0) := (blk_cell hSW.2 0).trans rfl; have y3 : wSW.cell? ⟨g7, 1, none⟩ = some (.string t1) := (blk_cell hSW.2 1).trans rfl; go_simp)
           all_goals with_reducible rfl
          case s221 => exact ⟨HPB.out, H7.out⟩
          try simp only [Act.put, List.setIfInBounds_toArray, List.set_cons_zero, List.set_cons_succ]
          refine AnyT.ready (rs := [12]) (by kernel_rfl) (by simp) (AllT.step rfl (fun K hK => ?b22212) AllT.nil)
          case b22212 =>
           (refine Kd.R_append_rows_step Kd.string (w0 := w) w.heap.size (by rfl) (.tmp 52) (.tmp 57) 29 9 (.string ⟨#[]⟩) 16 (by rfl) Try.underlying29 info9 rfl (by decide) (by omega) (.slice AT ts.length cT) ts [t0, t1] _ _ _ (fun _ => True) (fun _ => False) (by rfl) (by rfl) FT.out (Kd.R_reads' FL.out).2.2 (fun _ _ h => h) (fun _ h => h.elim) (fun _ _ => trivial) HB.out HB.out.size (by have h1 := HXL.out; have h2 := HTL.out; simp only [List.length_cons, List.length_nil]; omega) ?_; intro vx w9 ho hb hg hat; (try replace FN := Aside0.mk (Kd.R_over FN.out FT.out (by decide) hg)); replace HPB := Aside0.mk (blk_grown HPB.out hg (Kd.R_ne FT.out HPB.out (by decide))); replace H7 := Aside0.mk (blk_grown H7.out hg (Kd.R_ne FT.out H7.out (by decide))); replace HL := Aside0.mk (blk_grown HL.out hg (Kd.R_ne FT.out HL.out (by decide))); replace HB := Aside0.mk hb; obtain ⟨A58, c58, e9⟩ := Kd.R_slice ho; simp only [List.length_append, List.length_cons, List.length_nil, Nat.zero_add, Nat.reduceAdd] at e9; subst e9; replace FT := Aside0.mk ho; clear ho hb hg hat FL)
           refine hK.out _ _ ?_ ?_
           ·intro _; exact ⟨HPB.out, H7.out⟩
           clear hK K
           try simp only [Act.put, List.setIfInBounds_toArray, List.set_cons_zero, List.set_cons_succ]
           refine AnyT.ready (rs := [14]) (by kernel_rfl) (by simp) (AllT.step rfl (fun K hK => ?b22414) AllT.nil)
           case b22414 =>
            (have hs0 : w9.cell? ⟨gp, 0, none⟩ = some (.slice AN xs.length cN) := (blk_cell HPB.out 0).trans rfl; have hf0 := blk_frozen HPB.out 0; go_simp)
            refine hK.out _ _ ?_ ?_
            ·exact past (by kernel_rfl)
            clear hK K
            try simp only [Act.put, List.setIfInBounds_toArray, List.set_cons_zero, List.set_cons_succ]
            refine AnyT.ready (rs := [15]) (by kernel_rfl) (by simp) (AllT.step rfl (fun K hK => ?b22615) AllT.nil)
            case b22615 =>
             go_simp
             refine hK.out _ _ ?_ ?_
             ·exact past (by kernel_rfl)
             clear hK K
             try simp only [Act.put, List.setIfInBounds_toArray, List.set_cons_zero, List.set_cons_succ]
             refine AnyT.ready (rs := [16]) (by kernel_rfl) (by simp) (AllT.step rfl (fun K hK => ?b22816) AllT.nil)
             case b22816 =>
              (have hs1 : (w9.setCell ⟨gp, 0, none⟩ (.slice A50 (xs.length + 1) c50)).cell? ⟨gp, 1, none⟩ = some (.slice AT ts.length cT) := (blk_cell (blk_set HPB.out 0 (.slice A50 (xs.length + 1) c50)) 1).trans rfl; have hf1 := blk_frozen (blk_set HPB.out 0 (.slice A50 (xs.length + 1) c50)) 1; go_simp)
              refine hK.out _ _ ?_ ?_
              ·exact past (by kernel_rfl)
              clear hK K
              try simp only [Act.put, List.setIfInBounds_toArray, List.set_cons_zero, List.set_cons_succ]
              refine AnyT.done (by kernel_rfl) ?_ _
              refine NoPanic.normal ?_
              (have HE := Aside0.mk (PE.of HL.out HB.out FN.out FT.out HPB.out HG.out); have hm := Aside0.mk (round_less hx.out HLT.out); clear FN FT HPB HB H7 HL HG; go_wp2; rw [HW.out]; exact ⟨⟨i + 1, x + 1, xs ++ [0], ts ++ [t0, t1], _, _, rfl, HI, ⟨HLT.out⟩, ⟨HXS.out.symm⟩, ⟨HTS.out.symm⟩, HE⟩, hm.out⟩)
     ·have c1 : decide (x < (l0_8.length : Int)) = false := decide_eq_false (by omega)
      obtain rfl : i = l0_8.length := by omega
      have HC : Aside0 (pack_Encode.f k xs ts = some (r1, r2)) := ⟨by rw [hxs.out, hts.out, List.take_length]; exact HPK.out⟩
      clear HPK hxs hts hx hi hxi hile hlt
      obtain ⟨AN, cN, eN⟩ := Kd.R_slice HP.out.ns
      subst eN
      obtain ⟨AT, cT, eT⟩ := Kd.R_slice HP.out.ts
      subst eT
      have hp0 : wr.cell? ⟨gp, 0, none⟩ = some (.slice AN xs.length cN) := (blk_cell HP.out.bp 0).trans rfl
      have hp1 : wr.cell? ⟨gp, 1, none⟩ = some (.slice AT ts.length cT) := (blk_cell HP.out.bp 1).trans rfl
      go_wp2_with (go_at_call 29; refine (pack_Encode.calls k _ _ xs _ _ ts r1 r2 _ (Kd.R_reads' HP.out.ns).2.2 (Kd.R_reads' HP.out.ns).2.1 (Kd.R_reads' HP.out.ts).2.2 (Kd.R_reads' HP.out.ts).2.1 HC.out).mono ?_; rintro e w9 ⟨rfl, hb⟩; have HB9 := Aside0.mk (below_step HP.out.bel hb); clear hb)
      go_ret2
      exact ⟨rfl, HB9.out⟩
  ·rw [if_neg hl] at H
   cases H
 ·rw [if_neg c3] at H
  have c3b0 : (t == 0) = false := beq_eq_false_iff_ne.mpr c3
  have c3b1 : (t != 0) = true := bne_iff_ne.mpr c3
  simp only [Option.some.injEq, Prod.mk.injEq] at H
  obtain ⟨rfl, rfl⟩ := H
  go_enter Try.func18, Try.ntmps18
  go_wp2_with (first | ((with_reducible refine gate_dst (N := 1) rfl ?_); refine box_event ?hg (N := 1) ?hd (cs := #[.int .i64 a0_0, .int .i64 a0_1, .int .i64 a0_2, .int .i64 a0_3, .int .i64 a0_4, .int .i64 a0_5, .string a0_6, .slice A0_7 l0_7.length c0_7, .slice A0_8 l0_8.length c0_8]) (t := 32) ?hr ?_; (case hd => rfl); (case hg => rfl); (case hr => first | (go_simp; done) | (go_simp; rfl)); intro gl hgl w1 hbox hb; have HB := Aside0.mk hb; have BL := Aside0.mk hbox; clear hgl hb hbox; have hcz_0 : w1.cell? ⟨gl, 0, none⟩ = some (.int .i64 a0_0) := (blk_cell BL.out 0).trans rfl; have hcz_1 : w1.cell? ⟨gl, 1, none⟩ = some (.int .i64 a0_1) := (blk_cell BL.out 1).trans rfl; have hcz_2 : w1.cell? ⟨gl, 2, none⟩ = some (.int .i64 a0_2) := (blk_cell BL.out 2).trans rfl; have hcz_3 : w1.cell? ⟨gl, 3, none⟩ = some (.int .i64 a0_3) := (blk_cell BL.out 3).trans rfl; have hcz_4 : w1.cell? ⟨gl, 4, none⟩ = some (.int .i64 a0_4) := (blk_cell BL.out 4).trans rfl; have hcz_5 : w1.cell? ⟨gl, 5, none⟩ = some (.int .i64 a0_5) := (blk_cell BL.out 5).trans rfl; have hcz_6 : w1.cell? ⟨gl, 6, none⟩ = some (.string a0_6) := (blk_cell BL.out 6).trans rfl; have hcz_7 : w1.cell? ⟨gl, 7, none⟩ = some (.slice A0_7 l0_7.length c0_7) := (blk_cell BL.out 7).trans rfl; have hcz_8 : w1.cell? ⟨gl, 8, none⟩ = some (.slice A0_8 l0_8.length c0_8) := (blk_cell BL.out 8).trans rfl) | (go_at_call 23; refine (letter_Check.calls a0_0 a0_1 a0_2 a0_3 a0_4 a0_5 a0_6 _ _ l0_7 _ _ l0_8 _ _ (Kd.C_below HR7.out HB.out) HC7.out (Kd.C_below HR8.out HB.out) HC8.out A2.out).mono ?_; rintro e w2 ⟨rfl, hb⟩; have HB2 := Aside0.mk (below_step HB.out hb); have BL2 := Aside0.mk (blk_below BL.out hb); clear hb))
  go_ret2
  exact ⟨rfl, HB2.out⟩
end Go.Proofs.Ytnbomedhehoflaa.Al

namespace Go.Proofs.Ytnbomedhehoflaa.LetSpec
open Go.RowKit Go.Proofs.Ytnbomedhehoflaa.Base Go.Proofs.Ytnbomedhehoflaa.PackMath Go.Proofs.Ytnbomedhehoflaa.PackFns Go.Proofs.Ytnbomedhehoflaa.Al Go.Proofs.YtnbomedhehoflaaW.PrintWords
theorem key_size {s : ByteArray} (h : keyB s = true) : s.size ≤ 32 := by
 unfold keyB at h
 exact (of_decide_eq_true h).2
theorem risFrom_all : ∀ (l : List ByteArray) (p : Option ByteArray), risFrom p l = true → ∀ s ∈ l, keyB s = true
 |[], _, _, _, h => by cases h
 |x :: l, p, h, s, hs => by
  have h1 : keyB x = true ∧ risFrom (some x) l = true := by
   cases p with
   |none => simpa [risFrom] using h
   |some q =>
    have h2 : (keyB x && (Op.bytesLess q.toList x.toList && risFrom (some x) l)) = true := h
    simp only [Bool.and_eq_true] at h2
    exact ⟨h2.1, h2.2.2⟩
  rcases List.mem_cons.1 hs with rfl | hs
  ·exact h1.1
  ·exact risFrom_all l (some x) h1.2 s hs
theorem ris_all {l : List ByteArray} (h : risB l = true) : ∀ s ∈ l, s.size ≤ 32 := fun s hs => key_size (risFrom_all l none h s hs)
theorem wri_all {l : List S72} (h : wriB l = true) : l.length ≤ 16 ∧ ∀ x ∈ l, x.f0.size ≤ 32 ∧ x.f1.size ≤ 2052 := by
 unfold wriB at h
 simp only [Bool.and_eq_true, decide_eq_true_eq, List.all_eq_true] at h
 obtain ⟨h1, h2, h3⟩ := h
 refine ⟨h2, fun x hx => ⟨ris_all h3 _ (List.mem_map.2 ⟨x, hx, rfl⟩), ?_⟩⟩
 have := h1 x hx
 simp only [oneW, Bool.and_eq_true, decide_eq_true_eq] at this
 exact this.1
section
variable (x0 x1 x2 x3 x4 x5 : Int) (x6 : ByteArray) (x7 : List ByteArray) (x8 : List S72)
structure Bounds : Prop where
 b0 : 1 ≤ x0 ∧ x0 ≤ 8
 b1 : 0 ≤ x1 ∧ x1 ≤ 200
 b2 : 0 ≤ x2 ∧ x2 ≤ 200
 b3 : 0 ≤ x3 ∧ x3 ≤ 1125899906842623
 b4 : 0 ≤ x4 ∧ x4 ≤ 1125899906842624
 b5 : 0 ≤ x5 ∧ x5 ≤ 4
 b6 : x6.size ≤ 2052
 b7 : x7.length ≤ 16 ∧ ∀ s ∈ x7, s.size ≤ 32
 b8 : x8.length ≤ 16 ∧ ∀ x ∈ x8, x.f0.size ≤ 32 ∧ x.f1.size ≤ 2052
theorem empty_size {s : ByteArray} (h : s.toList = []) : s.size ≤ 2052 := by have := (empty_iff s).1 h; omega
theorem one_all {x7 : List ByteArray} {x8 : List S72} (h : oneB x7 x8 = true) : (x7.length ≤ 16 ∧ ∀ s ∈ x7, s.size ≤ 32) ∧ x8 = [] := by
 unfold oneB at h
 simp only [Bool.and_eq_true, decide_eq_true_eq] at h
 obtain ⟨h1, h2, h3⟩ := h
 obtain ⟨s, rfl⟩ := List.length_eq_one_iff.1 h1
 refine ⟨⟨by simp, fun t ht => ?_⟩, List.eq_nil_of_length_eq_zero h3⟩
 obtain rfl := List.mem_singleton.1 ht
 exact key_size h2
theorem bare_all {x6 : ByteArray} {x7 : List ByteArray} {x8 : List S72} (h : bareB x6 x7 x8 = true) : x7 = [] ∧ x8 = [] ∧ x6.toList = [] := by
 unfold bareB at h
 simp only [Bool.and_eq_true, decide_eq_true_eq, List.isEmpty_iff] at h
 exact ⟨List.eq_nil_of_length_eq_zero h.1, List.eq_nil_of_length_eq_zero h.2.1, h.2.2⟩
theorem if70 {c : Prop} [Decidable c] (h : (if c then (0 : Int) else 70) = 0) : c := by
 by_cases hc : c
 ·exact hc
 ·rw [if_neg hc] at h; cases h
theorem chk_zero (h : chkL x0 x1 x2 x3 x4 x5 x6 x7 x8 = 0) : Bounds x0 x1 x2 x3 x4 x5 x6 x7 x8 := by
 rw [ref_chk] at h
 by_cases hg : addrB x1 = true ∧ addrB x2 = true ∧ 1 ≤ x3 ∧ x3 ≤ 1125899906842623 ∧ 0 ≤ x4 ∧ x4 ≤ 1125899906842624 ∧ 0 ≤ x5 ∧ x5 ≤ 4
 case neg => rw [if_neg hg] at h; cases h
 rw [if_pos hg] at h
 obtain ⟨g0, g1, g2, g3, g4, g5, g6, g7⟩ := hg
 have a1 := of_decide_eq_true g0
 have a2 := of_decide_eq_true g1
 have nil7 : ∀ l : List ByteArray, l = [] → l.length ≤ 16 ∧ ∀ s ∈ l, s.size ≤ 32 := fun l h => by subst h; exact ⟨by simp, fun s hs => by cases hs⟩
 have nil8 : ∀ l : List S72, l = [] → l.length ≤ 16 ∧ ∀ x ∈ l, x.f0.size ≤ 32 ∧ x.f1.size ≤ 2052 := fun l h => by subst h; exact ⟨by simp, fun s hs => by cases hs⟩
 have mk : (1 ≤ x0 ∧ x0 ≤ 8) → x6.size ≤ 2052 → (x7.length ≤ 16 ∧ ∀ s ∈ x7, s.size ≤ 32) → (x8.length ≤ 16 ∧ ∀ x ∈ x8, x.f0.size ≤ 32 ∧ x.f1.size ≤ 2052) → Bounds x0 x1 x2 x3 x4 x5 x6 x7 x8 := fun h0 h6 h7 h8 => ⟨h0, by omega, by omega, by omega, by omega, by omega, h6, h7, h8⟩
 unfold refV at h
 by_cases n1 : x0 = 1
 ·rw [if_pos n1] at h
  obtain ⟨h1, h2, _⟩ := if70 h
  exact mk (by omega) (empty_size h2) (one_all h1).1 (nil8 _ (one_all h1).2)
 rw [if_neg n1] at h
 by_cases n2 : x0 = 2
 ·rw [if_pos n2] at h
  obtain ⟨h1, h2, _⟩ := if70 h
  exact mk (by omega) h2 (one_all h1).1 (nil8 _ (one_all h1).2)
 rw [if_neg n2] at h
 by_cases n3 : x0 = 3
 ·rw [if_pos n3] at h
  obtain ⟨h1, h2, h3, h4, _⟩ := if70 h
  exact mk (by omega) (empty_size h4) ⟨h1, ris_all h2⟩ (wri_all h3)
 rw [if_neg n3] at h
 by_cases n4 : x0 = 4
 ·rw [if_pos n4] at h
  obtain ⟨h1, _⟩ := if70 h
  obtain ⟨e7, e8, e6⟩ := bare_all h1
  exact mk (by omega) (empty_size e6) (nil7 _ e7) (nil8 _ e8)
 rw [if_neg n4] at h
 by_cases n5 : x0 = 5 ∨ x0 = 6 ∨ x0 = 7
 ·rw [if_pos n5] at h
  obtain ⟨h1, _⟩ := if70 h
  obtain ⟨e7, e8, e6⟩ := bare_all h1
  exact mk (by omega) (empty_size e6) (nil7 _ e7) (nil8 _ e8)
 rw [if_neg n5] at h
 by_cases n8 : x0 = 8
 ·rw [if_pos n8] at h
  obtain ⟨h1, _⟩ := if70 h
  obtain ⟨e7, e8, e6⟩ := bare_all h1
  exact mk (by omega) (empty_size e6) (nil7 _ e7) (nil8 _ e8)
 ·rw [if_neg n8] at h; cases h
def letN : List Int := [x0, x1, x2, x3, x4, x5, (x7.length : Int)] ++ flagsOf x8
def letT : List ByteArray := [x6] ++ x7 ++ pairsOf x8
theorem flags_len (l : List S72) : (flagsOf l).length = l.length := by simp [flagsOf]
theorem let_chk (h : chkL x0 x1 x2 x3 x4 x5 x6 x7 x8 = 0) : chk (letN x0 x1 x2 x3 x4 x5 x7 x8) (letT x6 x7 x8) = 0 := by
 obtain ⟨b0, b1, b2, b3, b4, b5, b6, ⟨b7, c7⟩, ⟨b8, c8⟩⟩ := chk_zero _ _ _ _ _ _ _ _ _ h
 refine chk_of ?_ ?_ ?_ ?_
 ·simp only [letN, List.length_append, flags_len, List.length_cons, List.length_nil]; omega
 ·simp only [letT, List.length_append, pairs_len, List.length_cons, List.length_nil]; omega
 ·intro n hn
  simp only [letN, List.mem_append, List.mem_cons, List.not_mem_nil, or_false, flagsOf, List.mem_map] at hn
  rcases hn with (rfl | rfl | rfl | rfl | rfl | rfl | rfl) | ⟨x, _, rfl⟩
  ·omega
  ·omega
  ·omega
  ·omega
  ·omega
  ·omega
  ·omega
  ·split <;> omega
 ·intro s hs
  simp only [letT, List.mem_append, List.mem_singleton, pairsOf, List.mem_flatten, List.mem_map] at hs
  rcases hs with (rfl | hs) | ⟨l, ⟨x, hx, rfl⟩, hs⟩
  ·omega
  ·have := c7 s hs; omega
  ·have h1 := c8 x hx
   simp only [List.mem_cons, List.not_mem_nil, or_false] at hs
   rcases hs with rfl | rfl <;> omega
/-- The bytes and the error of a letter. -/
def encL : ByteArray × Int := if chkL x0 x1 x2 x3 x4 x5 x6 x7 x8 = 0 then (strOfNums (enc (letN x0 x1 x2 x3 x4 x5 x7 x8) (letT x6 x7 x8)), 0) else (⟨#[]⟩, chkL x0 x1 x2 x3 x4 x5 x6 x7 x8)
variable (h7 : x7.length ≤ 8796093022000) (h8 : x8.length ≤ 8796093022000)
include h7 h8 in
theorem check_eq : letter_Check.f x0 x1 x2 x3 x4 x5 x6 x7 x8 = some (chkL x0 x1 x2 x3 x4 x5 x6 x7 x8) := if_pos ⟨h7, h8⟩
include h7 h8 in
theorem encodeL_ev : Ev (fun k => letter_Encode.f k x0 x1 x2 x3 x4 x5 x6 x7 x8) (encL x0 x1 x2 x3 x4 x5 x6 x7 x8) := by
 unfold letter_Encode.f encL
 rw [check_eq _ _ _ _ _ _ _ _ _ h7 h8]
 refine Ev.some_bind ?_
 by_cases h : chkL x0 x1 x2 x3 x4 x5 x6 x7 x8 = 0
 ·rw [if_pos h]
  have hb := chk_zero _ _ _ _ _ _ _ _ _ h
  have he := encode_ev (letN x0 x1 x2 x3 x4 x5 x7 x8) (letT x6 x7 x8)
  unfold encB at he
  rw [if_pos (let_chk _ _ _ _ _ _ _ _ _ h)] at he
  exact Ev.pos h (Ev.pos ⟨by have := hb.b7.1; omega, by have := hb.b8.1; omega⟩ he)
 ·rw [if_neg h]
  exact Ev.neg h (Ev.now _)
end
end Go.Proofs.Ytnbomedhehoflaa.LetSpec

namespace Go.Proofs.Ytnbomedhehoflaa.PackDec
open Go.RowKit Go.Proofs.Ytnbomedhehoflaa.Base Go.Proofs.Ytnbomedhehoflaa.PackMath Go.Proofs.YtnbomedhehoflaaW.PrintWords
/-- A number at the front of bytes: its value, how many bytes it has, the error (50: they end early, 3: no number). -/
def pn : Nat → Nat → Nat → List Int → Nat × Nat × Int
 |0, _, _, _ => (0, 0, 3)
 |_ + 1, _, _, [] => (0, 0, 50)
 |d + 1, i, n, b :: l => if b < 128 then (if b = 0 ∧ 0 < i then (0, 0, 3) else (n + (b % 128).toNat * 2 ^ (7 * i), i + 1, 0)) else pn d (i + 1) (n + (b % 128).toNat * 2 ^ (7 * i)) l
theorem pow_next (i : Nat) : 2 ^ (7 * (i + 1)) = 2 ^ (7 * i) * 128 := by rw [Nat.mul_add, Nat.pow_add]
theorem pn_plain : ∀ (m d i n : Nat) (r : List Int), (plain m).length ≤ d → (i = 0 ∨ 0 < m) → pn d i n (plain m ++ r) = (n + m * 2 ^ (7 * i), i + (plain m).length, 0) := by
 intro m
 induction m using Nat.strongRecOn with
 |ind m ih =>
  intro d i n r hd hi
  obtain ⟨d, rfl⟩ : ∃ e, d = e + 1 := ⟨d - 1, by have := plain_pos m; omega⟩
  by_cases hm : m < 128
  ·rw [plain_small hm]
   show (if (m : Int) < 128 then _ else _) = _
   rw [if_pos (by omega), if_neg (by omega), show ((m : Int) % 128).toNat = m from by omega]
   rfl
  ·have h128 : 128 ≤ m := by omega
   rw [plain_big h128] at hd ⊢
   simp only [List.length_cons] at hd
   have e := ih (m / 128) (by omega) d (i + 1) (n + m % 128 * 2 ^ (7 * i)) r (by omega) (Or.inr (by omega))
   show (if ((m % 128 + 128 : Nat) : Int) < 128 then _ else _) = _
   rw [if_neg (by omega), show (((m % 128 + 128 : Nat) : Int) % 128).toNat = m % 128 from by omega]
   show pn d (i + 1) (n + m % 128 * 2 ^ (7 * i)) (plain (m / 128) ++ r) = _
   rw [e]
   refine Prod.ext ?_ (Prod.ext ?_ rfl)
   ·show n + m % 128 * 2 ^ (7 * i) + m / 128 * 2 ^ (7 * (i + 1)) = n + m * 2 ^ (7 * i)
    rw [pow_next]
    generalize 2 ^ (7 * i) = P
    have h : m * P = (128 * (m / 128) + m % 128) * P := by rw [Nat.div_add_mod]
    rw [h, Nat.add_mul, show m / 128 * (P * 128) = 128 * (m / 128) * P from by ac_rfl]
    omega
   ·simp only [List.length_cons]; omega
theorem pn_ok : ∀ (d i n : Nat) (l : List Int) (v k : Nat), (∀ b ∈ l, 0 ≤ b ∧ b ≤ 255) → pn d i n l = (v, k, 0) → ∃ m r, l = plain m ++ r ∧ v = n + m * 2 ^ (7 * i) ∧ k = i + (plain m).length ∧ (plain m).length ≤ d ∧ (i = 0 ∨ 0 < m)
 |0, i, n, l, v, k, _, h => by simp [pn] at h
 |d + 1, i, n, [], v, k, _, h => by simp [pn] at h
 |d + 1, i, n, b :: l, v, k, hb, h => by
  have hb0 := hb b List.mem_cons_self
  have h' : (if b < 128 then (if b = 0 ∧ 0 < i then (0, 0, 3) else (n + (b % 128).toNat * 2 ^ (7 * i), i + 1, 0)) else pn d (i + 1) (n + (b % 128).toNat * 2 ^ (7 * i)) l) = (v, k, (0 : Int)) := h
  clear h
  by_cases h1 : b < 128
  ·rw [if_pos h1] at h'
   by_cases h2 : b = 0 ∧ 0 < i
   ·rw [if_pos h2] at h'; simp at h'
   ·rw [if_neg h2] at h'
    simp only [Prod.mk.injEq, and_true] at h'
    obtain ⟨rfl, rfl⟩ := h'
    refine ⟨b.toNat, l, ?_, ?_, ?_, ?_, ?_⟩
    ·rw [plain_small (by omega)]; simp; omega
    ·rw [show (b % 128).toNat = b.toNat from by omega]
    ·rw [plain_small (by omega)]; rfl
    ·rw [plain_small (by omega)]; simp
    ·omega
  ·rw [if_neg h1] at h'
   obtain ⟨m, r, rfl, rfl, rfl, hl, hm⟩ := pn_ok d (i + 1) _ l v k (fun c hc => hb c (List.mem_cons_of_mem _ hc)) h'
   have hm0 : 0 < m := by omega
   have hp : plain ((b % 128).toNat + 128 * m) = b :: plain m := by
    rw [plain_big (by omega)]
    congr 1
    ·omega
    ·congr 1; omega
   refine ⟨(b % 128).toNat + 128 * m, r, by rw [hp]; rfl, ?_, by rw [hp]; simp only [List.length_cons]; omega, by rw [hp]; simp only [List.length_cons]; omega, Or.inr (by omega)⟩
   rw [pow_next]
   generalize 2 ^ (7 * i) = P
   rw [Nat.add_mul, show m * (P * 128) = 128 * m * P from by ac_rfl]
   omega
theorem plain_lt : ∀ (k m : Nat), (plain m).length ≤ k → m < 128 ^ k
 |0, m, h => by have := plain_pos m; omega
 |k + 1, m, h => by
  by_cases hm : m < 128
  ·have : 0 < 128 ^ k := Nat.pow_pos (by omega)
   rw [Nat.pow_succ]; omega
  ·rw [plain_big (by omega)] at h
   have := plain_lt k (m / 128) (by simpa using h)
   rw [Nat.pow_succ]; omega
theorem plain_lt9 {m : Nat} (h : (plain m).length ≤ 9) : m < 9223372036854775808 := by simpa using plain_lt 9 m h
/-- The bytes from a place on. -/
def rest (s : ByteArray) (p : Nat) : List Int := (bytesOf s).drop p
theorem rest_length (s : ByteArray) (p : Nat) : (rest s p).length = s.size - p := by rw [rest, List.length_drop, bytesOf_length]
theorem rest_range (s : ByteArray) (p : Nat) : ∀ b ∈ rest s p, 0 ≤ b ∧ b ≤ 255 := by
 intro b hb
 have := List.mem_of_mem_drop hb
 simp only [bytesOf, List.mem_map] at this
 obtain ⟨c, _, rfl⟩ := this
 have := c.toNat_lt
 omega
theorem rest_step {s : ByteArray} {p : Nat} {a r : List Int} (h : rest s p = a ++ r) : rest s (p + a.length) = r := by
 unfold rest at h ⊢
 rw [← List.drop_drop, h, List.drop_left]
/-- A number at a place: its value, the place behind, the error; at the place itself, or (50) at the end. -/
def rdn (s : ByteArray) (p : Nat) : Nat × Nat × Int :=
 ((pn 9 0 0 (rest s p)).1, if (pn 9 0 0 (rest s p)).2.2 = 0 then p + (pn 9 0 0 (rest s p)).2.1 else if (pn 9 0 0 (rest s p)).2.2 = 50 then s.size else p, (pn 9 0 0 (rest s p)).2.2)
theorem rdn_plain {s : ByteArray} {p m : Nat} {r : List Int} (h : rest s p = plain m ++ r) (hm : m < 9223372036854775808) : rdn s p = (m, p + (plain m).length, 0) := by
 have e := pn_plain m 9 0 0 r (plain_len9 hm) (Or.inl rfl)
 unfold rdn
 rw [h, e]
 simp
theorem rdn_ok {s : ByteArray} {p : Nat} (h : (rdn s p).2.2 = 0) : (rdn s p).1 < 9223372036854775808 ∧ (rdn s p).2.1 = p + (plain (rdn s p).1).length ∧ ∃ r, rest s p = plain (rdn s p).1 ++ r := by
 have h0 : (pn 9 0 0 (rest s p)).2.2 = 0 := h
 obtain ⟨m, r, h1, h2, h3, h4, _⟩ := pn_ok 9 0 0 (rest s p) (pn 9 0 0 (rest s p)).1 (pn 9 0 0 (rest s p)).2.1 (rest_range s p) (by rw [← h0])
 have hm := plain_lt9 h4
 have e := rdn_plain h1 hm
 rw [e]
 exact ⟨hm, rfl, r, h1⟩
/-- A number that is at most another one. -/
def cnt (s : ByteArray) (p most : Nat) : Nat × Nat × Int := if (rdn s p).2.2 = 0 ∧ most < (rdn s p).1 then (0, p, 2) else rdn s p
theorem cnt_plain {s : ByteArray} {p m most : Nat} {r : List Int} (h : rest s p = plain m ++ r) (hm : m ≤ most) (hmost : most < 9223372036854775808) : cnt s p most = (m, p + (plain m).length, 0) := by
 unfold cnt
 rw [rdn_plain h (by omega), if_neg (by omega)]
theorem cnt_ok {s : ByteArray} {p most : Nat} (h : (cnt s p most).2.2 = 0) : cnt s p most = rdn s p ∧ (rdn s p).2.2 = 0 ∧ (rdn s p).1 ≤ most := by
 unfold cnt at h ⊢
 split at h
 ·simp at h
 ·rename_i hc
  rw [if_neg hc]
  exact ⟨rfl, h, by omega⟩
def decN (s : ByteArray) : Nat → Nat → List Int → List Int × Nat × Int
 |0, p, xs => (xs, p, 0)
 |m + 1, p, xs => if (rdn s p).2.2 = 0 then decN s m (rdn s p).2.1 (xs ++ [zag (rdn s p).1]) else (xs, (rdn s p).2.1, (rdn s p).2.2)
/-- A text at a place. -/
def txt (s : ByteArray) (p : Nat) : ByteArray × Nat × Int :=
 if (cnt s p 4096).2.2 = 0 then (if s.size - (cnt s p 4096).2.1 < (cnt s p 4096).1 then (⟨#[]⟩, s.size, 50) else (s.extract (cnt s p 4096).2.1 ((cnt s p 4096).2.1 + (cnt s p 4096).1), (cnt s p 4096).2.1 + (cnt s p 4096).1, 0))
 else (⟨#[]⟩, (cnt s p 4096).2.1, (cnt s p 4096).2.2)
def decT (s : ByteArray) : Nat → Nat → List ByteArray → List ByteArray × Nat × Int
 |0, p, xs => (xs, p, 0)
 |m + 1, p, xs => if (txt s p).2.2 = 0 then decT s m (txt s p).2.1 (xs ++ [(txt s p).1]) else (xs, (txt s p).2.1, (txt s p).2.2)
/-- The pack of bytes; or the place and the error. -/
def dec (s : ByteArray) : List Int × List ByteArray × Nat × Int :=
 if (cnt s 0 1024).2.2 = 0 then
  if (decN s (cnt s 0 1024).1 (cnt s 0 1024).2.1 []).2.2 = 0 then
   if (cnt s (decN s (cnt s 0 1024).1 (cnt s 0 1024).2.1 []).2.1 1024).2.2 = 0 then
    if (decT s (cnt s (decN s (cnt s 0 1024).1 (cnt s 0 1024).2.1 []).2.1 1024).1 (cnt s (decN s (cnt s 0 1024).1 (cnt s 0 1024).2.1 []).2.1 1024).2.1 []).2.2 = 0 then
     if (decT s (cnt s (decN s (cnt s 0 1024).1 (cnt s 0 1024).2.1 []).2.1 1024).1 (cnt s (decN s (cnt s 0 1024).1 (cnt s 0 1024).2.1 []).2.1 1024).2.1 []).2.1 < s.size then
      ([], [], (decT s (cnt s (decN s (cnt s 0 1024).1 (cnt s 0 1024).2.1 []).2.1 1024).1 (cnt s (decN s (cnt s 0 1024).1 (cnt s 0 1024).2.1 []).2.1 1024).2.1 []).2.1, 3)
     else ((decN s (cnt s 0 1024).1 (cnt s 0 1024).2.1 []).1, (decT s (cnt s (decN s (cnt s 0 1024).1 (cnt s 0 1024).2.1 []).2.1 1024).1 (cnt s (decN s (cnt s 0 1024).1 (cnt s 0 1024).2.1 []).2.1 1024).2.1 []).1, 0, 0)
    else ([], [], (decT s (cnt s (decN s (cnt s 0 1024).1 (cnt s 0 1024).2.1 []).2.1 1024).1 (cnt s (decN s (cnt s 0 1024).1 (cnt s 0 1024).2.1 []).2.1 1024).2.1 []).2)
   else ([], [], (cnt s (decN s (cnt s 0 1024).1 (cnt s 0 1024).2.1 []).2.1 1024).2)
  else ([], [], (decN s (cnt s 0 1024).1 (cnt s 0 1024).2.1 []).2)
 else ([], [], (cnt s 0 1024).2)
theorem dec_of {s : ByteArray} {m p q n u r : Nat} {xs : List Int} {ys : List ByteArray} (h1 : cnt s 0 1024 = (m, p, 0)) (h2 : decN s m p [] = (xs, q, 0)) (h3 : cnt s q 1024 = (n, u, 0)) (h4 : decT s n u [] = (ys, r, 0)) : dec s = if r < s.size then ([], [], r, 3) else (xs, ys, 0, 0) := by
 unfold dec
 simp only [h1, h2, h3, h4, if_true]
theorem dec_ok {s : ByteArray} (h : (dec s).2.2.2 = 0) : ∃ m p q n u r xs ys, cnt s 0 1024 = (m, p, 0) ∧ decN s m p [] = (xs, q, 0) ∧ cnt s q 1024 = (n, u, 0) ∧ decT s n u [] = (ys, r, 0) ∧ s.size ≤ r ∧ dec s = (xs, ys, 0, 0) := by
 unfold dec at h ⊢
 obtain ⟨m, p, e, h1⟩ : ∃ m p e, cnt s 0 1024 = (m, p, e) := ⟨_, _, _, rfl⟩
 simp only [h1] at h ⊢
 by_cases he : e = 0
 ·rw [if_pos he] at h ⊢
  subst he
  obtain ⟨xs, q, e, h2⟩ : ∃ xs q e, decN s m p [] = (xs, q, e) := ⟨_, _, _, rfl⟩
  simp only [h2] at h ⊢
  by_cases he : e = 0
  ·rw [if_pos he] at h ⊢
   subst he
   obtain ⟨n, u, e, h3⟩ : ∃ n u e, cnt s q 1024 = (n, u, e) := ⟨_, _, _, rfl⟩
   simp only [h3] at h ⊢
   by_cases he : e = 0
   ·rw [if_pos he] at h ⊢
    subst he
    obtain ⟨ys, r, e, h4⟩ : ∃ ys r e, decT s n u [] = (ys, r, e) := ⟨_, _, _, rfl⟩
    simp only [h4] at h ⊢
    by_cases he : e = 0
    ·rw [if_pos he] at h ⊢
     subst he
     by_cases hr : r < s.size
     ·rw [if_pos hr] at h; simp at h
     ·rw [if_neg hr]
      exact ⟨m, p, q, n, u, r, xs, ys, rfl, h2, h3, h4, by omega, rfl⟩
    ·rw [if_neg he] at h; exact absurd h he
   ·rw [if_neg he] at h; exact absurd h he
  ·rw [if_neg he] at h; exact absurd h he
 ·rw [if_neg he] at h; exact absurd h he
theorem dec_no {s : ByteArray} (h : (dec s).2.2.2 ≠ 0) : (dec s).1 = [] ∧ (dec s).2.1 = [] := by
 unfold dec at h ⊢
 repeat (first | (exact ⟨rfl, rfl⟩) | (exact absurd rfl h) | split at h)
 all_goals simp_all
end Go.Proofs.Ytnbomedhehoflaa.PackDec

namespace Go.Proofs.Ytnbomedhehoflaa.PackDec
open Go.RowKit Go.Proofs.Ytnbomedhehoflaa.Base Go.Proofs.Ytnbomedhehoflaa.PackMath Go.Proofs.YtnbomedhehoflaaW.PrintWords
theorem str_bytes (s : ByteArray) : strOfNums (bytesOf s) = s := by
 apply B_inj
 rw [B_nums]
 unfold bytesOf B
 rw [List.map_map]
 conv => rhs; rw [← List.map_id s.data.toList]
 apply List.map_congr_left
 intro b _
 simp
theorem bytes_inj {s t : ByteArray} (h : bytesOf s = bytesOf t) : s = t := by rw [← str_bytes s, h, str_bytes]
theorem bytes_extract (s : ByteArray) (i j : Nat) : bytesOf (s.extract i j) = ((bytesOf s).take j).drop i := by
 have e : ∀ t, bytesOf t = (B t).map fun b => (b.toNat : Int) := fun _ => rfl
 rw [e, e, B_extract, List.map_drop, List.map_take]
theorem extract_rest {s t : ByteArray} {q : Nat} {r : List Int} (h : rest s q = bytesOf t ++ r) : s.extract q (q + t.size) = t := by
 apply bytes_inj
 rw [bytes_extract, List.drop_take, show q + t.size - q = t.size from by omega]
 show (rest s q).take t.size = _
 rw [h, List.take_left' (bytesOf_length t)]
theorem body_cons (n : Int) (l : List Int) : body (n :: l) = plain (zig n) ++ body l := rfl
theorem tails_cons (t : ByteArray) (l : List ByteArray) : tails (t :: l) = plain t.size ++ (bytesOf t ++ tails l) := by simp [tails]
def Nums (l : List Int) : Prop := ∀ n ∈ l, -4611686018427387904 ≤ n ∧ n ≤ 4611686018427387903
def Texts (l : List ByteArray) : Prop := ∀ s ∈ l, s.size ≤ 4096
theorem decN_body {s : ByteArray} : ∀ (nums : List Int) (p : Nat) (acc r : List Int), Nums nums → rest s p = body nums ++ r → decN s nums.length p acc = (acc ++ nums, p + (body nums).length, 0)
 |[], p, acc, r, _, _ => by simp [decN, body]
 |n :: l, p, acc, r, hn, h => by
  rw [body_cons, List.append_assoc] at h
  have h0 := hn n List.mem_cons_self
  have e := rdn_plain h (zig_lt h0.1 h0.2)
  have ih := decN_body l (p + (plain (zig n)).length) (acc ++ [n]) r (fun m hm => hn m (List.mem_cons_of_mem _ hm)) (rest_step h)
  show (if (rdn s p).2.2 = 0 then decN s l.length (rdn s p).2.1 (acc ++ [zag (rdn s p).1]) else _) = _
  rw [e]
  simp only [if_true, zag_zig]
  rw [ih, body_cons]
  simp [Nat.add_assoc]
theorem txt_at {s t : ByteArray} {p : Nat} {r : List Int} (ht : t.size ≤ 4096) (h : rest s p = plain t.size ++ (bytesOf t ++ r)) : txt s p = (t, p + (plain t.size).length + t.size, 0) := by
 have e := cnt_plain h ht (by omega)
 have h2 := rest_step h
 have hl := rest_length s (p + (plain t.size).length)
 rw [h2, List.length_append, bytesOf_length] at hl
 unfold txt
 rw [e]
 simp only [if_true]
 rw [if_neg (by omega), extract_rest h2]
theorem decT_tails {s : ByteArray} : ∀ (texts : List ByteArray) (p : Nat) (acc : List ByteArray) (r : List Int), Texts texts → rest s p = tails texts ++ r → decT s texts.length p acc = (acc ++ texts, p + (tails texts).length, 0)
 |[], p, acc, r, _, _ => by simp [decT, tails]
 |t :: l, p, acc, r, hn, h => by
  rw [tails_cons, List.append_assoc, List.append_assoc] at h
  have h0 := hn t List.mem_cons_self
  have e := txt_at h0 h
  have h2 := rest_step (rest_step h)
  rw [bytesOf_length] at h2
  have ih := decT_tails l (p + (plain t.size).length + t.size) (acc ++ [t]) r (fun m hm => hn m (List.mem_cons_of_mem _ hm)) h2
  show (if (txt s p).2.2 = 0 then decT s l.length (txt s p).2.1 (acc ++ [(txt s p).1]) else _) = _
  rw [e]
  simp only [if_true]
  rw [ih, tails_cons]
  simp [Nat.add_assoc, bytesOf_length]
theorem rest_zero (s : ByteArray) : rest s 0 = bytesOf s := rfl
/-- What is encoded, and what stands behind. -/
theorem dec_enc {s : ByteArray} {nums : List Int} {texts : List ByteArray} {r : List Int} (hc : chk nums texts = 0) (h : bytesOf s = enc nums texts ++ r) : dec s = if r = [] then (nums, texts, 0, 0) else ([], [], (enc nums texts).length, 3) := by
 obtain ⟨h1, h2, h3, h4⟩ := chk_ok hc
 have h0 : rest s 0 = plain nums.length ++ (body nums ++ (plain texts.length ++ (tails texts ++ r))) := by
  rw [rest_zero, h]; simp [enc, List.append_assoc]
 have e1 := cnt_plain (most := 1024) h0 h1 (by omega)
 have r1 := rest_step h0
 have e2 := decN_body nums _ [] _ h3 r1
 have r2 := rest_step r1
 have e3 := cnt_plain (most := 1024) r2 h2 (by omega)
 have r3 := rest_step r2
 have e4 := decT_tails texts _ [] _ h4 r3
 have r4 := rest_step r3
 have hl := rest_length s (0 + (plain nums.length).length + (body nums).length + (plain texts.length).length + (tails texts).length)
 rw [r4] at hl
 have hlen : (enc nums texts).length = 0 + (plain nums.length).length + (body nums).length + (plain texts.length).length + (tails texts).length := by simp only [enc, List.length_append]; omega
 have hs : s.size = (enc nums texts).length + r.length := by rw [← bytesOf_length, h, List.length_append]
 rw [dec_of e1 e2 e3 e4, ← hlen]
 by_cases hr : r = []
 ·subst hr
  rw [if_pos rfl, if_neg (by simp at hs; omega)]
  simp
 ·have : 0 < r.length := List.length_pos_iff.2 hr
  rw [if_neg hr, if_pos (by omega)]
theorem decN_ok {s : ByteArray} : ∀ (m p : Nat) (acc xs : List Int) (q : Nat), decN s m p acc = (xs, q, 0) → ∃ nums, xs = acc ++ nums ∧ nums.length = m ∧ Nums nums ∧ rest s p = body nums ++ rest s q
 |0, p, acc, xs, q, h => by
  simp only [decN, Prod.mk.injEq, and_true] at h
  obtain ⟨rfl, rfl⟩ := h
  exact ⟨[], by simp, rfl, fun n hn => by simp at hn, rfl⟩
 |m + 1, p, acc, xs, q, h => by
  have h' : (if (rdn s p).2.2 = 0 then decN s m (rdn s p).2.1 (acc ++ [zag (rdn s p).1]) else (acc, (rdn s p).2.1, (rdn s p).2.2)) = (xs, q, 0) := h
  by_cases he : (rdn s p).2.2 = 0
  ·rw [if_pos he] at h'
   obtain ⟨nums, rfl, rfl, hn, hr⟩ := decN_ok m _ _ xs q h'
   obtain ⟨hv, hq, r, hp⟩ := rdn_ok he
   have hr2 := rest_step hp
   rw [← hq] at hr2
   refine ⟨zag (rdn s p).1 :: nums, by simp, by simp, fun n hm => ?_, ?_⟩
   ·rcases List.mem_cons.1 hm with rfl | hm
    ·exact zag_range hv
    ·exact hn n hm
   ·rw [body_cons, zig_zag, List.append_assoc, ← hr, hr2]; exact hp
  ·rw [if_neg he] at h'
   simp only [Prod.mk.injEq] at h'
   exact absurd h'.2.2 he
theorem txt_ok {s : ByteArray} {p : Nat} (h : (txt s p).2.2 = 0) : (txt s p).1.size ≤ 4096 ∧ rest s p = plain (txt s p).1.size ++ (bytesOf (txt s p).1 ++ rest s (txt s p).2.1) := by
 unfold txt at h ⊢
 by_cases he : (cnt s p 4096).2.2 = 0
 ·rw [if_pos he] at h ⊢
  by_cases hl : s.size - (cnt s p 4096).2.1 < (cnt s p 4096).1
  ·rw [if_pos hl] at h; simp at h
  ·rw [if_neg hl]
   obtain ⟨e1, e2, e3⟩ := cnt_ok he
   obtain ⟨hv, hq, r, hp⟩ := rdn_ok e2
   rw [e1] at hl ⊢
   generalize (rdn s p).1 = v at *
   have hr := rest_step hp
   rw [← hq] at hr
   generalize (rdn s p).2.1 = q at *
   have hrl := rest_length s q
   rw [hr] at hrl
   have hsz : (s.extract q (q + v)).size = v := by rw [ByteArray.size_extract]; omega
   show (s.extract q (q + v)).size ≤ 4096 ∧ rest s p = plain (s.extract q (q + v)).size ++ (bytesOf (s.extract q (q + v)) ++ rest s (q + v))
   rw [hsz]
   refine ⟨e3, ?_⟩
   rw [hp]
   congr 1
   rw [bytes_extract, List.drop_take, show q + v - q = v from by omega]
   have e : (bytesOf s).drop q = r := hr
   have e2 : rest s (q + v) = r.drop v := by rw [← e, List.drop_drop]; rfl
   rw [e, e2, List.take_append_drop]
 ·rw [if_neg he] at h; exact absurd h he
theorem decT_ok {s : ByteArray} : ∀ (m p : Nat) (acc xs : List ByteArray) (q : Nat), decT s m p acc = (xs, q, 0) → ∃ texts, xs = acc ++ texts ∧ texts.length = m ∧ Texts texts ∧ rest s p = tails texts ++ rest s q
 |0, p, acc, xs, q, h => by
  simp only [decT, Prod.mk.injEq, and_true] at h
  obtain ⟨rfl, rfl⟩ := h
  exact ⟨[], by simp, rfl, fun n hn => by simp at hn, rfl⟩
 |m + 1, p, acc, xs, q, h => by
  have h' : (if (txt s p).2.2 = 0 then decT s m (txt s p).2.1 (acc ++ [(txt s p).1]) else (acc, (txt s p).2.1, (txt s p).2.2)) = (xs, q, 0) := h
  by_cases he : (txt s p).2.2 = 0
  ·rw [if_pos he] at h'
   obtain ⟨texts, rfl, rfl, hn, hr⟩ := decT_ok m _ _ xs q h'
   obtain ⟨hv, hp⟩ := txt_ok he
   refine ⟨(txt s p).1 :: texts, by simp, by simp, fun n hm => ?_, ?_⟩
   ·rcases List.mem_cons.1 hm with rfl | hm
    ·exact hv
    ·exact hn n hm
   ·rw [tails_cons, List.append_assoc, List.append_assoc, ← hr]; exact hp
  ·rw [if_neg he] at h'
   simp only [Prod.mk.injEq] at h'
   exact absurd h'.2.2 he
/-- What is decoded is encoded as just those bytes. -/
theorem enc_dec {s : ByteArray} (h : (dec s).2.2.2 = 0) : ∃ ns ts, dec s = (ns, ts, 0, 0) ∧ chk ns ts = 0 ∧ bytesOf s = enc ns ts := by
 obtain ⟨m, p, q, n, u, r, xs, ys, h1, h2, h3, h4, hr, hd⟩ := dec_ok h
 obtain ⟨c1, c2, c3⟩ := cnt_ok (s := s) (p := 0) (most := 1024) (by rw [h1])
 obtain ⟨_, a2, r1, a3⟩ := rdn_ok c2
 have b1 := rest_step a3
 rw [← a2] at b1
 rw [← c1, h1] at a2 a3 c3 b1
 obtain ⟨ns, e1, e2, hn, g1⟩ := decN_ok m p [] xs q h2
 obtain ⟨d1, d2, d3⟩ := cnt_ok (s := s) (p := q) (most := 1024) (by rw [h3])
 obtain ⟨_, f2, r2, f3⟩ := rdn_ok d2
 have b2 := rest_step f3
 rw [← f2] at b2
 rw [← d1, h3] at f2 f3 d3 b2
 obtain ⟨ts, e3, e4, ht, g2⟩ := decT_ok n u [] ys r h4
 simp only [List.nil_append] at e1 e3
 subst e1 e3
 simp only at a2 a3 b1 c3 f2 f3 b2 d3
 refine ⟨xs, ys, hd, chk_of (by omega) (by omega) hn ht, ?_⟩
 have hz : rest s r = [] := List.drop_of_length_le (by rw [bytesOf_length]; exact hr)
 rw [← rest_zero, a3, ← b1, g1, f3, ← b2, g2, hz, ← e2, ← e4]
 simp [enc, List.append_assoc]
theorem rdn_le {s : ByteArray} {p : Nat} (hp : p ≤ s.size) : (rdn s p).2.1 ≤ s.size := by
 by_cases he : (rdn s p).2.2 = 0
 ·obtain ⟨_, hq, r, h⟩ := rdn_ok he
  have hl := rest_length s p
  rw [h, List.length_append] at hl
  omega
 ·unfold rdn at he ⊢
  simp only at he ⊢
  rw [if_neg he]
  split <;> omega
theorem cnt_le {s : ByteArray} {p most : Nat} (hp : p ≤ s.size) : (cnt s p most).2.1 ≤ s.size := by
 unfold cnt
 split
 ·exact hp
 ·exact rdn_le hp
theorem decN_le {s : ByteArray} : ∀ (m p : Nat) (acc : List Int), p ≤ s.size → (decN s m p acc).2.1 ≤ s.size
 |0, p, acc, h => h
 |m + 1, p, acc, h => by
  unfold decN
  split
  ·exact decN_le m _ _ (rdn_le h)
  ·exact rdn_le h
theorem txt_le {s : ByteArray} {p : Nat} (hp : p ≤ s.size) : (txt s p).2.1 ≤ s.size := by
 have := cnt_le (most := 4096) hp
 unfold txt
 split
 ·split
  ·exact Nat.le_refl _
  ·simp only; omega
 ·exact this
end Go.Proofs.Ytnbomedhehoflaa.PackDec

namespace Go.Proofs.Ytnbomedhehoflaa.Al
open Go.RowKit Go.Proofs.YtnbomedhehoflaaW.PrintWords Go.Proofs.YtnbomedhehoflaaW.PrintLast Go.Proofs.YtnbomedhehoflaaW.PrintMore
attribute [local go_sem] max2_int min2_int max_two min_two max_three min_three max_four min_four   -- for this text's walks alone
set_option linter.unusedVariables false
set_option linter.unusedSimpArgs false
/-- A state of type 90 at block g of W; what its slices lead to came in by w0. -/
def IsS90 (w0 W : World) (g : Nat) (f0 : ByteArray) (f1 : Int) (f2 : Int) : Prop := W.heap[g]? = some (.cells #[.string f0, .int .i64 f1, .int .i64 f2] 90 (0, 0)) ∧ w0.heap.size ≤ g
theorem IsS90.grown {w0 W : World} {g : Nat} {f0 : ByteArray} {f1 : Int} {f2 : Int} {W1 : World} {row : Option Nat} (h : IsS90 w0 W g f0 f1 f2) (hw : W.grownBy W1 row) (hne : some g ≠ row) : IsS90 w0 W1 g f0 f1 f2 := by
 obtain ⟨hb, hg⟩ := h
 exact ⟨blk_grown hb hw hne, hg⟩
theorem IsS90.kept {w0 W : World} {g : Nat} {f0 : ByteArray} {f1 : Int} {f2 : Int} {W1 : World} {S : Nat → Prop} (h : IsS90 w0 W g f0 f1 f2) (hk : Kept W W1 S) (hne : ¬ S g) : IsS90 w0 W1 g f0 f1 f2 := by
 obtain ⟨hb, hg⟩ := h
 exact ⟨blk_kept hb hk hne, hg⟩
theorem IsS90.below {w0 W : World} {g : Nat} {f0 : ByteArray} {f1 : Int} {f2 : Int} {W1 : World} (h : IsS90 w0 W g f0 f1 f2) (hw : Below W.heap.size W W1) : IsS90 w0 W1 g f0 f1 f2 := h.grown (grown_of_below hw none) (by simp)
theorem IsS90.alloc {w0 W : World} {g : Nat} {f0 : ByteArray} {f1 : Int} {f2 : Int} (h : IsS90 w0 W g f0 f1 f2) (o : Obj) : IsS90 w0 (W.alloc o) g f0 f1 f2 := h.below (below_alloc (Below.refl _ _) o)
theorem IsS90.drewN {w0 W : World} {g : Nat} {f0 : ByteArray} {f1 : Int} {f2 : Int} (h : IsS90 w0 W g f0 f1 f2) (m : Nat) : IsS90 w0 (W.drewN m) g f0 f1 f2 := h
theorem IsS90.drew {w0 W : World} {g : Nat} {f0 : ByteArray} {f1 : Int} {f2 : Int} (h : IsS90 w0 W g f0 f1 f2) : IsS90 w0 W.drew g f0 f1 f2 := h
theorem IsS90.apart {w0 W : World} {g : Nat} {f0 : ByteArray} {f1 : Int} {f2 : Int} {α : Type} {d : Kd α} {e : Nat} {base : Nat} {ok : Nat → Prop} {v : Value} {xs : List α} (h : IsS90 w0 W g f0 f1 f2) (ho : d.R e W base ok v xs) (ht : ∀ q, q ∈ e :: d.E → q ≠ 90) : d.R e W base (fun k => ok k ∧ k ≠ g) v xs := by
 obtain ⟨hb, hg⟩ := h
 exact Kd.R_types ho hb ht
theorem IsS90.own_ne {w0 W : World} {g : Nat} {f0 : ByteArray} {f1 : Int} {f2 : Int} {α : Type} {d : Kd α} {e : Nat} {base : Nat} {ok : Nat → Prop} {v : Value} {xs : List α} (h : IsS90 w0 W g f0 f1 f2) (ho : d.R e W base ok v xs) (ht : e ≠ 90) : some g ≠ v.ownBlock := by
 obtain ⟨hb, hg⟩ := h
 exact Kd.R_ne ho hb ht
theorem IsS90.lt {w0 W : World} {g : Nat} {f0 : ByteArray} {f1 : Int} {f2 : Int} (h : IsS90 w0 W g f0 f1 f2) : g < W.heap.size := by
 obtain ⟨hb, hg⟩ := h
 exact blk_lt hb
theorem IsS90.ge {w0 W : World} {g : Nat} {f0 : ByteArray} {f1 : Int} {f2 : Int} (h : IsS90 w0 W g f0 f1 f2) : w0.heap.size ≤ g := by
 obtain ⟨hb, hg⟩ := h
 exact hg
theorem IsS90.ne_blk {w0 W : World} {g : Nat} {f0 : ByteArray} {f1 : Int} {f2 : Int} {a : Nat} {cs : Array Value} {t : TypeId} {fr : Nat × Nat} (h : IsS90 w0 W g f0 f1 f2) (hb2 : W.heap[a]? = some (.cells cs t fr)) (ht : t ≠ 90) : g ≠ a := by
 obtain ⟨hb, hg⟩ := h
 rintro rfl
 rw [hb] at hb2
 injection hb2 with hb2
 injection hb2 with _ ht2
 exact ht ht2.symm
theorem IsS90.far {w0 W : World} {g : Nat} {f0 : ByteArray} {f1 : Int} {f2 : Int} {p : Addr} (h : IsS90 w0 W g f0 f1 f2) (hne : g ≠ p.block) (u : Value) : IsS90 w0 (W.setCell p u) g f0 f1 f2 := by
 obtain ⟨hb, hg⟩ := h
 exact ⟨blk_far hb hne u, hg⟩
theorem cellS90_0 {W : World} {g : Nat} {f0 : ByteArray} {f1 : Int} {f2 : Int} (h : W.heap[g]? = some (.cells #[.string f0, .int .i64 f1, .int .i64 f2] 90 (0, 0))) : W.cell? ⟨g, 0, none⟩ = some (.string f0) := (blk_cell h 0).trans rfl
theorem cellS90_1 {W : World} {g : Nat} {f0 : ByteArray} {f1 : Int} {f2 : Int} (h : W.heap[g]? = some (.cells #[.string f0, .int .i64 f1, .int .i64 f2] 90 (0, 0))) : W.cell? ⟨g, 1, none⟩ = some (.int .i64 f1) := (blk_cell h 1).trans rfl
theorem IsS90.set_1 {w0 W : World} {g : Nat} {f0 : ByteArray} {f1 : Int} {f2 : Int} (h : IsS90 w0 W g f0 f1 f2) (x : Int) : IsS90 w0 (W.setCell ⟨g, 1, none⟩ (.int .i64 x)) g f0 x f2 := by
 obtain ⟨hb, hg⟩ := h
 exact ⟨by simpa using blk_set hb 1 (.int .i64 x), hg⟩
theorem cellS90_2 {W : World} {g : Nat} {f0 : ByteArray} {f1 : Int} {f2 : Int} (h : W.heap[g]? = some (.cells #[.string f0, .int .i64 f1, .int .i64 f2] 90 (0, 0))) : W.cell? ⟨g, 2, none⟩ = some (.int .i64 f2) := (blk_cell h 2).trans rfl
theorem IsS90.set_2 {w0 W : World} {g : Nat} {f0 : ByteArray} {f1 : Int} {f2 : Int} (h : IsS90 w0 W g f0 f1 f2) (x : Int) : IsS90 w0 (W.setCell ⟨g, 2, none⟩ (.int .i64 x)) g f0 f1 x := by
 obtain ⟨hb, hg⟩ := h
 exact ⟨by simpa using blk_set hb 2 (.int .i64 x), hg⟩
theorem IsS90.new (w0 W : World) (f0 : ByteArray) (f1 : Int) (f2 : Int) (hB : Below w0.heap.size w0 W) : IsS90 w0 (W.alloc (.cells #[.string f0, .int .i64 f1, .int .i64 f2] 90)) W.heap.size f0 f1 f2 := ⟨by simpa using heap_alloc_new W _, hB.size⟩
end Go.Proofs.Ytnbomedhehoflaa.Al

namespace Go.Proofs.Ytnbomedhehoflaa.Al
open Go.RowKit Go.Proofs.YtnbomedhehoflaaW.PrintWords Go.Proofs.YtnbomedhehoflaaW.PrintLast Go.Proofs.YtnbomedhehoflaaW.PrintMore
attribute [local go_sem] max2_int min2_int max_two min_two max_three min_three max_four min_four   -- for this text's walks alone
set_option linter.unusedVariables false
set_option linter.unusedSimpArgs false
def pack_reader_fail.f (s0_0 : ByteArray) (s0_1 : Int) (s0_2 : Int) (a1 : Int) (a2 : Int) : Option (Int × ByteArray × Int × Int) := some (0, s0_0, a1, a2)
set_option maxHeartbeats 8000000 in
set_option maxRecDepth 100000 in
theorem pack_reader_fail.calls (g : Nat) (s0_0 : ByteArray) (s0_1 : Int) (s0_2 : Int) (a1 : Int) (a2 : Int) (r1 : Int) (r2 : ByteArray) (r3 : Int) (r4 : Int) (w0 w : World) (hI : IsS90 w0 w g s0_0 s0_1 s0_2) (hB : Below w0.heap.size w0 w) (h : pack_reader_fail.f s0_0 s0_1 s0_2 a1 a2 = some (r1, r2, r3, r4)) :
  Calls Try.prog 52 #[.pointer (some ⟨g, 0, none⟩), .int .i64 a1, .int .i64 a2] w fun e w' => e = .returned (.int .u64 r1) ∧ IsS90 w0 w' g r2 r3 r4 ∧ Below w0.heap.size w0 w' ∧ KeepBut w w' g none := by
 have HI0 := Aside0.mk hI
 have HK := Aside0.mk (KeepBut.refl w g none)
 have HL := Aside0.mk hB.size
 clear hI
 have HW0 := Aside0.mk hB.size
 have HB := Aside0.mk hB
 clear hB
 have H : (some (0, s0_0, a1, a2)) = some (r1, r2, r3, r4) := h
 clear h
 simp only [Option.some.injEq, Prod.mk.injEq] at H
 obtain ⟨rfl, rfl, rfl, rfl⟩ := H
 obtain ⟨HGz4, hgz4⟩ := HI0.out
 have hcz4_0 := cellS90_0 HGz4
 have hcz4_1 := cellS90_1 HGz4
 have hcz4_2 := cellS90_2 HGz4
 have hfz4_0 := blk_frozen HGz4 0
 have hfz4_1 := blk_frozen HGz4 1
 have hfz4_2 := blk_frozen HGz4 2
 clear HGz4 hgz4
 go_enter Try.func52, Try.ntmps52
 go_wp2
 go_ret
 exact ⟨by first | rfl | (simp [errW_none, errW_some] <;> rfl) | (simp [*, errW_none, errW_some] <;> rfl), by repeat (first | (with_reducible first | exact HI0.out | apply IsS90.alloc | apply IsS90.drewN | apply IsS90.drew | apply IsS90.set_0 | apply IsS90.set_1 | apply IsS90.set_2) | exact HI0.out), by repeat (first | (with_reducible first | exact HB.out | apply below_alloc | apply pw_below_drewN | apply below_drew1 | refine below_set ?_ (IsS90.ge HI0.out)) | exact HB.out), by repeat (first | (with_reducible first | exact HK.out | apply KeepBut.set_ | apply keep_drewN | apply keep_drew | apply keep_alloc) | exact HK.out)⟩
end Go.Proofs.Ytnbomedhehoflaa.Al

namespace Go.Proofs.Ytnbomedhehoflaa.Al
open Go.RowKit Go.Proofs.YtnbomedhehoflaaW.PrintWords Go.Proofs.YtnbomedhehoflaaW.PrintLast Go.Proofs.YtnbomedhehoflaaW.PrintMore
attribute [local go_sem] max2_int min2_int max_two min_two max_three min_three max_four min_four   -- for this text's walks alone
set_option linter.unusedVariables false
set_option linter.unusedSimpArgs false
mutual
def pack_reader_number.l0 : Nat → Int → Int → Int → Int → ByteArray → Int → Int → Option (Int × ByteArray × Int × Int)
 |0, _, _, _, _, _, _, _ => none
 |k + 1, x1, x5, x6, x13, x1000, x1001, x1002 => if x13 < 9 then (if x1002 = 0 then (if (wrap64 (x5 + x13)) = (x1000.size : Int) then ((pack_reader_fail.f x1000 x1001 x1002 (x1000.size : Int) 50).bind fun bt232 => (some (bt232.1, bt232.2.1, bt232.2.2.1, bt232.2.2.2))) else (if 0 ≤ (wrap64 (x5 + x13)) then (if (wrap64 (x5 + x13)) < (x1000.size : Int) then (if 0 ≤ (wrap64 (7 * x13)) then (if (bt x1000 (wrap64 (x5 + x13))) ≥ 128 then (pack_reader_number.l0 k x1 x5 (Go.bits .or .u64 x6 (shl .u64 (IntKind.u64.wrap (Int.tmod (bt x1000 (wrap64 (x5 + x13))) 128)) (wrap64 (7 * x13)))) (wrap64 (x13 + 1)) x1000 x1001 x1002) else (if (bt x1000 (wrap64 (x5 + x13))) = 0 then (pack_reader_number.j1 k x1 x5 (Go.bits .or .u64 x6 (shl .u64 (IntKind.u64.wrap (Int.tmod (bt x1000 (wrap64 (x5 + x13))) 128)) (wrap64 (7 * x13)))) x13 (decide (x13 > 0)) x1000 x1001 x1002) else (pack_reader_number.j1 k x1 x5 (Go.bits .or .u64 x6 (shl .u64 (IntKind.u64.wrap (Int.tmod (bt x1000 (wrap64 (x5 + x13))) 128)) (wrap64 (7 * x13)))) x13 false x1000 x1001 x1002))) else (none)) else (none)) else (none))) else (some (0, x1000, x1001, x1002))) else ((pack_reader_fail.f x1000 x1001 x1002 x5 3).bind fun bt228 => (some (bt228.1, bt228.2.1, bt228.2.2.1, bt228.2.2.2)))
def pack_reader_number.j1 : Nat → Int → Int → Int → Int → Bool → ByteArray → Int → Int → Option (Int × ByteArray × Int × Int)
 |0, _, _, _, _, _, _, _, _ => none
 |k + 1, x1, x5, x6, x7, x55, x1000, x1001, x1002 => if x55 = true then ((pack_reader_fail.f x1000 x1001 x1002 x5 3).bind fun bt236 => (some (bt236.1, bt236.2.1, bt236.2.2.1, bt236.2.2.2))) else (if x6 > x1 then ((pack_reader_fail.f x1000 x1001 x1002 x5 2).bind fun bt240 => (some (bt240.1, bt240.2.1, bt240.2.2.1, bt240.2.2.2))) else (some (x6, x1000, wrap64 ((wrap64 (x5 + x7)) + 1), x1002)))
end
def pack_reader_number.f (k : Nat) (s0_0 : ByteArray) (s0_1 : Int) (s0_2 : Int) (a1 : Int) : Option (Int × ByteArray × Int × Int) := pack_reader_number.l0 k a1 s0_1 0 0 s0_0 s0_1 s0_2
set_option maxHeartbeats 8000000 in
set_option maxRecDepth 100000 in
theorem pack_reader_number.calls (k : Nat) (g : Nat) (s0_0 : ByteArray) (s0_1 : Int) (s0_2 : Int) (a1 : Int) (r1 : Int) (r2 : ByteArray) (r3 : Int) (r4 : Int) (w0 w : World) (hI : IsS90 w0 w g s0_0 s0_1 s0_2) (hB : Below w0.heap.size w0 w) (h : pack_reader_number.f k s0_0 s0_1 s0_2 a1 = some (r1, r2, r3, r4)) :
  Calls Try.prog 50 #[.pointer (some ⟨g, 0, none⟩), .int .u64 a1] w fun e w' => e = .returned (.int .u64 r1) ∧ IsS90 w0 w' g r2 r3 r4 ∧ Below w0.heap.size w0 w' ∧ KeepBut w w' g none := by
 have HI0 := Aside0.mk hI
 have HK := Aside0.mk (KeepBut.refl w g none)
 have HL := Aside0.mk hB.size
 clear hI
 have HW0 := Aside0.mk hB.size
 have HB := Aside0.mk hB
 clear hB
 have H : (pack_reader_number.l0 k a1 s0_1 0 0 s0_0 s0_1 s0_2) = some (r1, r2, r3, r4) := h
 clear h
 have H' := Aside0.mk H
 clear H
 obtain ⟨HGz3, hgz3⟩ := HI0.out
 have hcz3_0 := cellS90_0 HGz3
 have hcz3_1 := cellS90_1 HGz3
 have hcz3_2 := cellS90_2 HGz3
 have hfz3_0 := blk_frozen HGz3 0
 have hfz3_1 := blk_frozen HGz3 1
 have hfz3_2 := blk_frozen HGz3 2
 clear HGz3 hgz3
 go_enter Try.func50, Try.ntmps50
 go_wp2
 go_loopg [6, 13] k (fun kq v6 v13 w' => ∃ (x6_1 : Int) (x13_1 : Int) (x1000_1 : ByteArray) (x1001_1 : Int) (x1002_1 : Int), v6 = .int .u64 x6_1 ∧ v13 = .int .i64 x13_1 ∧ Aside0 (pack_reader_number.l0 kq a1 s0_1 x6_1 x13_1 x1000_1 x1001_1 x1002_1 = some (r1, r2, r3, r4)) ∧ Aside0 (kq ≤ k) ∧ Aside0 (IsS90 w0 w' g x1000_1 x1001_1 x1002_1) ∧ Aside0 (KeepBut w w' g none) ∧ Aside0 (Below w0.heap.size w0 w'))
 case atStart => exact ⟨(0), (0), (s0_0), (s0_1), (s0_2), (by first | rfl | (simp; done) | (simp [*]; done)), (by first | rfl | (simp; done) | (simp [*]; done)), H', ⟨Nat.le_refl _⟩, ⟨by repeat (first | (with_reducible first | exact HI0.out | apply IsS90.alloc | apply IsS90.drewN | apply IsS90.drew | apply IsS90.set_0 | apply IsS90.set_1 | apply IsS90.set_2) | exact HI0.out)⟩, ⟨by repeat (first | (with_reducible first | exact HK.out | apply KeepBut.set_ | apply keep_drewN | apply keep_drew | apply keep_alloc) | exact HK.out)⟩, ⟨by repeat (first | (with_reducible first | exact HB.out | apply below_alloc | apply pw_below_drewN | apply below_drew1 | refine below_set ?_ (IsS90.ge HI0.out)) | exact HB.out)⟩⟩
 case round =>
  clear H'
  (try clear p2); (try clear hcz3_0); (try clear hcz3_1); (try clear hcz3_2); (try clear hfz3_0); (try clear hfz3_1); (try clear hfz3_2)
  obtain ⟨x6_1, x13_1, x1000_1, x1001_1, x1002_1, rfl, rfl, HA, HK1, HI0, HK, HB⟩ := hrel
  cases gk with
  |zero => exact absurd HA.out (by simp [pack_reader_number.l0])
  |succ k1 =>
   have H := HA.out
   clear HA
   simp only [pack_reader_number.l0] at H
   by_cases c4 : x13_1 < 9
   ·rw [if_pos c4] at H
    have c4b0 : decide (x13_1 < 9) = true := decide_eq_true c4
    clear c4
    by_cases c5 : x1002_1 = 0
    ·rw [if_pos c5] at H
     have c5b0 : (x1002_1 == 0) = true := beq_iff_eq.mpr c5
     have c5b1 : (x1002_1 != 0) = false := bne_eq_false_iff_eq.mpr c5
     clear c5
     by_cases c6 : (wrap64 (s0_1 + x13_1)) = (x1000_1.size : Int)
     ·rw [if_pos c6] at H
      have c6b0 : ((wrap64 (s0_1 + x13_1)) == (x1000_1.size : Int)) = true := beq_iff_eq.mpr c6
      have c6b1 : ((wrap64 (s0_1 + x13_1)) != (x1000_1.size : Int)) = false := bne_eq_false_iff_eq.mpr c6
      clear c6
      replace H := Option.bind_eq_some_iff.mp H
      obtain ⟨⟨t232, t233, t234, t235⟩, A70, H⟩ := H
      replace H : (some (t232, t233, t234, t235)) = some (r1, r2, r3, r4) := H
      have A7 := Aside0.mk A70
      clear A70
      simp only [Option.some.injEq, Prod.mk.injEq] at H
      obtain ⟨rfl, rfl, rfl, rfl⟩ := H
      obtain ⟨HGz8, hgz8⟩ := HI0.out
      have hcz8_0 := cellS90_0 HGz8
      have hcz8_1 := cellS90_1 HGz8
      have hcz8_2 := cellS90_2 HGz8
      have hfz8_0 := blk_frozen HGz8 0
      have hfz8_1 := blk_frozen HGz8 1
      have hfz8_2 := blk_frozen HGz8 2
      clear HGz8 hgz8
      go_wp2_with (first | ((with_reducible refine gate_callee (f := 52) rfl ?_); refine goesL_ (some 36) rfl rfl Try.func52 (by kernel_rfl) rfl #[.pointer (some ⟨g, 0, none⟩), .int .i64 (x1000_1.size : Int), .int .i64 50] rfl (by (try simp only [List.map_toArray, List.map_cons, List.map_nil]); first | done | rfl | (simp only [List.length_drop, List.length_take]; rfl)) ?_; (with_reducible refine (pack_reader_fail.calls g x1000_1 x1001_1 x1002_1 (x1000_1.size : Int) 50 t232 t233 t234 t235 w0 _ ?side1 ?side2 A7.out).mono ?_); (case side1 => repeat (first | (with_reducible first | exact HI0.out | apply IsS90.alloc | apply IsS90.drewN | apply IsS90.drew | apply IsS90.set_0 | apply IsS90.set_1 | apply IsS90.set_2) | exact HI0.out)); (case side2 => repeat (first | (with_reducible first | exact HB.out | apply below_alloc | apply pw_below_drewN | apply below_drew1 | refine below_set ?_ (IsS90.ge HI0.out)) | exact HB.out)); rintro e w9 ⟨rfl, hi, hb, hk⟩; refine ⟨_, rfl, ?_⟩; have n0_ := Aside0.mk (KeepBut.trans (by repeat (first | (with_reducible first | exact HK.out | apply KeepBut.set_ | apply keep_drewN | apply keep_drew | apply keep_alloc) | exact HK.out)) hk (.inl rfl)); have n1_ := Aside0.mk (hb); have n2_ := Aside0.mk (hi); clear HK; clear HB; clear HI0; have HK := n0_; have HB := n1_; have HI0 := n2_; clear n0_ n1_ n2_; (try clear hb); (try clear hb2); (try clear hk); (try clear hi)))
      go_ret
      exact ⟨by first | rfl | (simp [errW_none, errW_some] <;> rfl) | (simp [*, errW_none, errW_some] <;> rfl), by repeat (first | (with_reducible first | exact HI0.out | apply IsS90.alloc | apply IsS90.drewN | apply IsS90.drew | apply IsS90.set_0 | apply IsS90.set_1 | apply IsS90.set_2) | exact HI0.out), by repeat (first | (with_reducible first | exact HB.out | apply below_alloc | apply pw_below_drewN | apply below_drew1 | refine below_set ?_ (IsS90.ge HI0.out)) | exact HB.out), by repeat (first | (with_reducible first | exact HK.out | apply KeepBut.set_ | apply keep_drewN | apply keep_drew | apply keep_alloc) | exact HK.out)⟩
     ·rw [if_neg c6] at H
      have c6b0 : ((wrap64 (s0_1 + x13_1)) == (x1000_1.size : Int)) = false := beq_eq_false_iff_ne.mpr c6
      have c6b1 : ((wrap64 (s0_1 + x13_1)) != (x1000_1.size : Int)) = true := bne_iff_ne.mpr c6
      obtain ⟨ji10, hji10⟩ : ∃ j_ : Int, (wrap64 (s0_1 + x13_1)) = j_ := ⟨_, rfl⟩
      replace H : (if 0 ≤ (ji10) then (if (ji10) < (x1000_1.size : Int) then (if 0 ≤ (wrap64 (7 * x13_1)) then (if (bt x1000_1 (ji10)) ≥ 128 then (pack_reader_number.l0 k1 a1 s0_1 (Go.bits .or .u64 x6_1 (shl .u64 (IntKind.u64.wrap (Int.tmod (bt x1000_1 (ji10)) 128)) (wrap64 (7 * x13_1)))) (wrap64 (x13_1 + 1)) x1000_1 x1001_1 x1002_1) else (if (bt x1000_1 (ji10)) = 0 then (pack_reader_number.j1 k1 a1 s0_1 (Go.bits .or .u64 x6_1 (shl .u64 (IntKind.u64.wrap (Int.tmod (bt x1000_1 (ji10)) 128)) (wrap64 (7 * x13_1)))) x13_1 (decide (x13_1 > 0)) x1000_1 x1001_1 x1002_1) else (pack_reader_number.j1 k1 a1 s0_1 (Go.bits .or .u64 x6_1 (shl .u64 (IntKind.u64.wrap (Int.tmod (bt x1000_1 (ji10)) 128)) (wrap64 (7 * x13_1)))) x13_1 false x1000_1 x1001_1 x1002_1))) else (none)) else (none)) else (none)) = some (r1, r2, r3, r4) := by first | (rw [hji10] at H; exact H) | (simp only [hji10] at H ⊢; exact H)
      (try rw [hji10] at c6b0)
      (try rw [hji10] at c6b1)
      have hji10w : (IntKind.i64.wrap (s0_1 + x13_1)) = ji10 := (i64_w _).trans hji10
      by_cases c11 : 0 ≤ (ji10)
      ·rw [if_pos c11] at H
       have c11b0 : decide (0 ≤ (ji10)) = true := decide_eq_true c11
       clear c11
       by_cases c12 : (ji10) < (x1000_1.size : Int)
       ·rw [if_pos c12] at H
        have c12b0 : decide ((ji10) < (x1000_1.size : Int)) = true := decide_eq_true c12
        clear c12
        obtain ⟨ji14, hji14⟩ : ∃ j_ : Int, (wrap64 (7 * x13_1)) = j_ := ⟨_, rfl⟩
        replace H : (if 0 ≤ (ji14) then (if (bt x1000_1 (ji10)) ≥ 128 then (pack_reader_number.l0 k1 a1 s0_1 (Go.bits .or .u64 x6_1 (shl .u64 (IntKind.u64.wrap (Int.tmod (bt x1000_1 (ji10)) 128)) (ji14))) (wrap64 (x13_1 + 1)) x1000_1 x1001_1 x1002_1) else (if (bt x1000_1 (ji10)) = 0 then (pack_reader_number.j1 k1 a1 s0_1 (Go.bits .or .u64 x6_1 (shl .u64 (IntKind.u64.wrap (Int.tmod (bt x1000_1 (ji10)) 128)) (ji14))) x13_1 (decide (x13_1 > 0)) x1000_1 x1001_1 x1002_1) else (pack_reader_number.j1 k1 a1 s0_1 (Go.bits .or .u64 x6_1 (shl .u64 (IntKind.u64.wrap (Int.tmod (bt x1000_1 (ji10)) 128)) (ji14))) x13_1 false x1000_1 x1001_1 x1002_1))) else (none)) = some (r1, r2, r3, r4) := by first | (rw [hji14] at H; exact H) | (simp only [hji14] at H ⊢; exact H)
        have hji14w : (IntKind.i64.wrap (7 * x13_1)) = ji14 := (i64_w _).trans hji14
        by_cases c15 : 0 ≤ (ji14)
        ·rw [if_pos c15] at H
         have c15b0 := eq_true c15
         have c15b1 : decide (0 ≤ (ji14)) = true := decide_eq_true c15
         clear c15
         obtain ⟨ji16, hji16⟩ : ∃ j_ : Int, (shl .u64 (IntKind.u64.wrap (Int.tmod (bt x1000_1 (ji10)) 128)) (ji14)) = j_ := ⟨_, rfl⟩
         replace H : (if (bt x1000_1 (ji10)) ≥ 128 then (pack_reader_number.l0 k1 a1 s0_1 (Go.bits .or .u64 x6_1 (ji16)) (wrap64 (x13_1 + 1)) x1000_1 x1001_1 x1002_1) else (if (bt x1000_1 (ji10)) = 0 then (pack_reader_number.j1 k1 a1 s0_1 (Go.bits .or .u64 x6_1 (ji16)) x13_1 (decide (x13_1 > 0)) x1000_1 x1001_1 x1002_1) else (pack_reader_number.j1 k1 a1 s0_1 (Go.bits .or .u64 x6_1 (ji16)) x13_1 false x1000_1 x1001_1 x1002_1))) = some (r1, r2, r3, r4) := by first | (rw [hji16] at H; exact H) | (simp only [hji16] at H ⊢; exact H)
         have hji16_ : (IntKind.u64.wrap ((IntKind.u64.wrap (Int.tmod (bt x1000_1 (ji10)) 128)) * 2 ^ min (ji14).toNat 64)) = ji16 := hji16
         have hji16z : (ji14) ≤ 64 → (IntKind.u64.wrap ((IntKind.u64.wrap (Int.tmod (bt x1000_1 (ji10)) 128)) * 2 ^ (ji14).toNat)) = ji16 := shl_small hji16
         by_cases c17 : (bt x1000_1 (ji10)) ≥ 128
         ·rw [if_pos c17] at H
          have c17b0 : decide (128 ≤ (bt x1000_1 (ji10))) = true := decide_eq_true c17
          clear c17
          have H' := Aside0.mk H
          clear H
          obtain ⟨HGz18, hgz18⟩ := HI0.out
          have hcz18_0 := cellS90_0 HGz18
          have hcz18_1 := cellS90_1 HGz18
          have hcz18_2 := cellS90_2 HGz18
          have hfz18_0 := blk_frozen HGz18 0
          have hfz18_1 := blk_frozen HGz18 1
          have hfz18_2 := blk_frozen HGz18 2
          clear HGz18 hgz18
          have p13 : 0 ≤ ((ji10) : Int) := of_decide_eq_true (by first | (with_reducible assumption) | assumption)
          have q13 : (ji10) < (x1000_1.size : Int) := of_decide_eq_true (by first | (with_reducible assumption) | assumption)
          have hx13 := bt_at x1000_1 (ji10)
          replace p13 := eq_true p13
          replace q13 := eq_true q13
          go_wp2
          go_roundg k1
          case measure => have := HK1.out; omega
          case rel => exact ⟨(Go.bits .or .u64 x6_1 (ji16)), (wrap64 (x13_1 + 1)), (x1000_1), (x1001_1), (x1002_1), (by first | rfl | (simp; done) | (simp only [← hji16] <;> (first | rfl | simp)) | (simp [*]; done)), (by first | rfl | (simp; done) | (simp [*]; done)), H', ⟨by have := HK1.out; omega⟩, ⟨by repeat (first | (with_reducible first | exact HI0.out | apply IsS90.alloc | apply IsS90.drewN | apply IsS90.drew | apply IsS90.set_0 | apply IsS90.set_1 | apply IsS90.set_2) | exact HI0.out)⟩, ⟨by repeat (first | (with_reducible first | exact HK.out | apply KeepBut.set_ | apply keep_drewN | apply keep_drew | apply keep_alloc) | exact HK.out)⟩, ⟨by repeat (first | (with_reducible first | exact HB.out | apply below_alloc | apply pw_below_drewN | apply below_drew1 | refine below_set ?_ (IsS90.ge HI0.out)) | exact HB.out)⟩⟩
         ·rw [if_neg c17] at H
          have c17b0 : decide (128 ≤ (bt x1000_1 (ji10))) = false := decide_eq_false c17
          clear c17
          have HC19 := Aside0.mk H
          clear H
          obtain ⟨HGz20, hgz20⟩ := HI0.out
          have hcz20_0 := cellS90_0 HGz20
          have hcz20_1 := cellS90_1 HGz20
          have hcz20_2 := cellS90_2 HGz20
          have hfz20_0 := blk_frozen HGz20 0
          have hfz20_1 := blk_frozen HGz20 1
          have hfz20_2 := blk_frozen HGz20 2
          clear HGz20 hgz20
          have p13 : 0 ≤ ((ji10) : Int) := of_decide_eq_true (by first | (with_reducible assumption) | assumption)
          have q13 : (ji10) < (x1000_1.size : Int) := of_decide_eq_true (by first | (with_reducible assumption) | assumption)
          have hx13 := bt_at x1000_1 (ji10)
          replace p13 := eq_true p13
          replace q13 := eq_true q13
          go_upto_region 13 with (fail)
          go_cut [55] (fun v55 wc => ∃ (kq : Nat) (x55_18 : Bool), v55 = .bool x55_18 ∧ Aside0 (pack_reader_number.j1 kq a1 s0_1 (Go.bits .or .u64 x6_1 (ji16)) x13_1 x55_18 x1000_1 x1001_1 x1002_1 = some (r1, r2, r3, r4)) ∧ Aside0 (kq ≤ k1) ∧ Aside0 (IsS90 w0 wc g x1000_1 x1001_1 x1002_1) ∧ Aside0 (KeepBut w wc g none) ∧ Aside0 (Below w0.heap.size w0 wc))
          case first =>
           have H := HC19.out
           clear HC19
           by_cases c21 : (bt x1000_1 (ji10)) = 0
           ·rw [if_pos c21] at H
            have c21b0 : ((bt x1000_1 (ji10)) == 0) = true := beq_iff_eq.mpr c21
            have c21b1 : ((bt x1000_1 (ji10)) != 0) = false := bne_eq_false_iff_eq.mpr c21
            clear c21
            (first | rw [c21b0] | (simp only [i64_w, i32_w]; rw [c21b0]) | skip)
            have H' := Aside0.mk H
            clear H
            go_wp2
            go_meet
            case rel => exact ⟨_, (decide (x13_1 > 0)), (by first | rfl | (simp; done) | (simp [*]; done)), H', ⟨by have := HK1.out; first | omega | exact Nat.le_refl _⟩, ⟨by repeat (first | (with_reducible first | exact HI0.out | apply IsS90.alloc | apply IsS90.drewN | apply IsS90.drew | apply IsS90.set_0 | apply IsS90.set_1 | apply IsS90.set_2) | exact HI0.out)⟩, ⟨by repeat (first | (with_reducible first | exact HK.out | apply KeepBut.set_ | apply keep_drewN | apply keep_drew | apply keep_alloc) | exact HK.out)⟩, ⟨by repeat (first | (with_reducible first | exact HB.out | apply below_alloc | apply pw_below_drewN | apply below_drew1 | refine below_set ?_ (IsS90.ge HI0.out)) | exact HB.out)⟩⟩
           ·rw [if_neg c21] at H
            have c21b0 : ((bt x1000_1 (ji10)) == 0) = false := beq_eq_false_iff_ne.mpr c21
            have c21b1 : ((bt x1000_1 (ji10)) != 0) = true := bne_iff_ne.mpr c21
            (first | rw [c21b0] | (simp only [i64_w, i32_w]; rw [c21b0]) | skip)
            have H' := Aside0.mk H
            clear H
            go_wp2
            go_meet
            case rel => exact ⟨_, (false), (by first | rfl | (simp; done) | (simp [*]; done)), H', ⟨by have := HK1.out; first | omega | exact Nat.le_refl _⟩, ⟨by repeat (first | (with_reducible first | exact HI0.out | apply IsS90.alloc | apply IsS90.drewN | apply IsS90.drew | apply IsS90.set_0 | apply IsS90.set_1 | apply IsS90.set_2) | exact HI0.out)⟩, ⟨by repeat (first | (with_reducible first | exact HK.out | apply KeepBut.set_ | apply keep_drewN | apply keep_drew | apply keep_alloc) | exact HK.out)⟩, ⟨by repeat (first | (with_reducible first | exact HB.out | apply below_alloc | apply pw_below_drewN | apply below_drew1 | refine below_set ?_ (IsS90.ge HI0.out)) | exact HB.out)⟩⟩
          case rest =>
           clear HC19
           (try clear c1); (try clear p1); (try clear q1); (try clear hx1); (try clear c2); (try clear p2); (try clear c4); (try clear c4b0); (try clear c5); (try clear c5b0); (try clear c5b1); (try clear c6); (try clear c6b0); (try clear c6b1); (try clear p6); (try clear c11); (try clear c11b0); (try clear c12); (try clear c12b0); (try clear p13); (try clear q13); (try clear hx13); (try clear c15); (try clear c15b0); (try clear c15b1); (try clear c17); (try clear c17b0); (try clear c21); (try clear c21b0); (try clear c21b1); (try clear hcz18_0); (try clear hcz18_1); (try clear hcz18_2); (try clear hcz20_0); (try clear hcz20_1); (try clear hcz20_2); (try clear hcz3_0); (try clear hcz3_1); (try clear hcz3_2); (try clear hcz8_0); (try clear hcz8_1); (try clear hcz8_2); (try clear hfz18_0); (try clear hfz18_1); (try clear hfz18_2); (try clear hfz20_0); (try clear hfz20_1); (try clear hfz20_2); (try clear hfz3_0); (try clear hfz3_1); (try clear hfz3_2); (try clear hfz8_0); (try clear hfz8_1); (try clear hfz8_2); (try clear p13); (try clear p2); (try clear q13)
           obtain ⟨kq, x55_18, rfl, HA, HJ18, HI0, HK, HB⟩ := hcut
           cases kq with
           |zero => exact absurd HA.out (by simp [pack_reader_number.j1])
           |succ kj18 =>
            have H := HA.out
            clear HA
            simp only [pack_reader_number.j1] at H
            by_cases c22 : x55_18 = true
            ·subst c22
             have H1 : ((pack_reader_fail.f x1000_1 x1001_1 x1002_1 s0_1 3).bind fun bt236 => (some (bt236.1, bt236.2.1, bt236.2.2.1, bt236.2.2.2))) = some (r1, r2, r3, r4) := by rw [if_pos rfl] at H; exact H
             clear H
             have H := H1
             clear H1
             replace H := Option.bind_eq_some_iff.mp H
             obtain ⟨⟨t236, t237, t238, t239⟩, A230, H⟩ := H
             replace H : (some (t236, t237, t238, t239)) = some (r1, r2, r3, r4) := H
             have A23 := Aside0.mk A230
             clear A230
             simp only [Option.some.injEq, Prod.mk.injEq] at H
             obtain ⟨rfl, rfl, rfl, rfl⟩ := H
             go_wp2_with (first | ((with_reducible refine gate_callee (f := 52) rfl ?_); refine goesL_ (some 64) rfl rfl Try.func52 (by kernel_rfl) rfl #[.pointer (some ⟨g, 0, none⟩), .int .i64 s0_1, .int .i64 3] rfl (by (try simp only [List.map_toArray, List.map_cons, List.map_nil]); first | done | rfl | (simp only [List.length_drop, List.length_take]; rfl)) ?_; (with_reducible refine (pack_reader_fail.calls g x1000_1 x1001_1 x1002_1 s0_1 3 t236 t237 t238 t239 w0 _ ?side1 ?side2 A23.out).mono ?_); (case side1 => repeat (first | (with_reducible first | exact HI0.out | apply IsS90.alloc | apply IsS90.drewN | apply IsS90.drew | apply IsS90.set_0 | apply IsS90.set_1 | apply IsS90.set_2) | exact HI0.out)); (case side2 => repeat (first | (with_reducible first | exact HB.out | apply below_alloc | apply pw_below_drewN | apply below_drew1 | refine below_set ?_ (IsS90.ge HI0.out)) | exact HB.out)); rintro e w24 ⟨rfl, hi, hb, hk⟩; refine ⟨_, rfl, ?_⟩; have n0_ := Aside0.mk (KeepBut.trans (by repeat (first | (with_reducible first | exact HK.out | apply KeepBut.set_ | apply keep_drewN | apply keep_drew | apply keep_alloc) | exact HK.out)) hk (.inl rfl)); have n1_ := Aside0.mk (hb); have n2_ := Aside0.mk (hi); clear HK; clear HB; clear HI0; have HK := n0_; have HB := n1_; have HI0 := n2_; clear n0_ n1_ n2_; (try clear hb); (try clear hb2); (try clear hk); (try clear hi)))
             go_ret
             exact ⟨by first | rfl | (simp [errW_none, errW_some] <;> rfl) | (simp only [← hji10, ← hji14, ← hji16]; first | rfl | (simp [errW_none, errW_some] <;> rfl)) | (simp [*, errW_none, errW_some] <;> rfl), by (try simp only [hji10, hji14, hji16]); repeat (first | (with_reducible first | exact HI0.out | apply IsS90.alloc | apply IsS90.drewN | apply IsS90.drew | apply IsS90.set_0 | apply IsS90.set_1 | apply IsS90.set_2) | exact HI0.out), by repeat (first | (with_reducible first | exact HB.out | apply below_alloc | apply pw_below_drewN | apply below_drew1 | refine below_set ?_ (IsS90.ge HI0.out)) | exact HB.out), by repeat (first | (with_reducible first | exact HK.out | apply KeepBut.set_ | apply keep_drewN | apply keep_drew | apply keep_alloc) | exact HK.out)⟩
            ·replace c22 := Bool.eq_false_iff.mpr c22
             subst c22
             have H1 : (if (Go.bits .or .u64 x6_1 (ji16)) > a1 then ((pack_reader_fail.f x1000_1 x1001_1 x1002_1 s0_1 2).bind fun bt240 => (some (bt240.1, bt240.2.1, bt240.2.2.1, bt240.2.2.2))) else (some ((Go.bits .or .u64 x6_1 (ji16)), x1000_1, wrap64 ((wrap64 (s0_1 + x13_1)) + 1), x1002_1))) = some (r1, r2, r3, r4) := by rw [if_neg (show ¬ (false = true) by decide)] at H; exact H
             clear H
             have H := H1
             clear H1
             by_cases c25 : (Go.bits .or .u64 x6_1 (ji16)) > a1
             ·rw [if_pos c25] at H
              have c25b0 : decide (a1 < (Go.bits .or .u64 x6_1 (ji16))) = true := decide_eq_true c25
              clear c25
              replace H := Option.bind_eq_some_iff.mp H
              obtain ⟨⟨t240, t241, t242, t243⟩, A260, H⟩ := H
              replace H : (some (t240, t241, t242, t243)) = some (r1, r2, r3, r4) := H
              have A26 := Aside0.mk A260
              clear A260
              simp only [Option.some.injEq, Prod.mk.injEq] at H
              obtain ⟨rfl, rfl, rfl, rfl⟩ := H
              go_wp2_with (first | ((with_reducible refine gate_callee (f := 52) rfl ?_); refine goesL_ (some 71) rfl rfl Try.func52 (by kernel_rfl) rfl #[.pointer (some ⟨g, 0, none⟩), .int .i64 s0_1, .int .i64 2] rfl (by (try simp only [List.map_toArray, List.map_cons, List.map_nil]); first | done | rfl | (simp only [List.length_drop, List.length_take]; rfl)) ?_; (with_reducible refine (pack_reader_fail.calls g x1000_1 x1001_1 x1002_1 s0_1 2 t240 t241 t242 t243 w0 _ ?side1 ?side2 A26.out).mono ?_); (case side1 => repeat (first | (with_reducible first | exact HI0.out | apply IsS90.alloc | apply IsS90.drewN | apply IsS90.drew | apply IsS90.set_0 | apply IsS90.set_1 | apply IsS90.set_2) | exact HI0.out)); (case side2 => repeat (first | (with_reducible first | exact HB.out | apply below_alloc | apply pw_below_drewN | apply below_drew1 | refine below_set ?_ (IsS90.ge HI0.out)) | exact HB.out)); rintro e w27 ⟨rfl, hi, hb, hk⟩; refine ⟨_, rfl, ?_⟩; have n0_ := Aside0.mk (KeepBut.trans (by repeat (first | (with_reducible first | exact HK.out | apply KeepBut.set_ | apply keep_drewN | apply keep_drew | apply keep_alloc) | exact HK.out)) hk (.inl rfl)); have n1_ := Aside0.mk (hb); have n2_ := Aside0.mk (hi); clear HK; clear HB; clear HI0; have HK := n0_; have HB := n1_; have HI0 := n2_; clear n0_ n1_ n2_; (try clear hb); (try clear hb2); (try clear hk); (try clear hi)))
              go_ret
              exact ⟨by first | rfl | (simp [errW_none, errW_some] <;> rfl) | (simp only [← hji10, ← hji14, ← hji16]; first | rfl | (simp [errW_none, errW_some] <;> rfl)) | (simp [*, errW_none, errW_some] <;> rfl), by (try simp only [hji10, hji14, hji16]); repeat (first | (with_reducible first | exact HI0.out | apply IsS90.alloc | apply IsS90.drewN | apply IsS90.drew | apply IsS90.set_0 | apply IsS90.set_1 | apply IsS90.set_2) | exact HI0.out), by repeat (first | (with_reducible first | exact HB.out | apply below_alloc | apply pw_below_drewN | apply below_drew1 | refine below_set ?_ (IsS90.ge HI0.out)) | exact HB.out), by repeat (first | (with_reducible first | exact HK.out | apply KeepBut.set_ | apply keep_drewN | apply keep_drew | apply keep_alloc) | exact HK.out)⟩
             ·rw [if_neg c25] at H
              have c25b0 : decide (a1 < (Go.bits .or .u64 x6_1 (ji16))) = false := decide_eq_false c25
              clear c25
              simp only [Option.some.injEq, Prod.mk.injEq] at H
              obtain ⟨rfl, rfl, rfl, rfl⟩ := H
              obtain ⟨HGz28, hgz28⟩ := HI0.out
              have hcz28_0 := cellS90_0 HGz28
              have hcz28_1 := cellS90_1 HGz28
              have hcz28_2 := cellS90_2 HGz28
              have hfz28_0 := blk_frozen HGz28 0
              have hfz28_1 := blk_frozen HGz28 1
              have hfz28_2 := blk_frozen HGz28 2
              clear HGz28 hgz28
              go_wp2
              go_ret
              exact ⟨by first | rfl | (simp [errW_none, errW_some] <;> rfl) | (simp only [← hji10, ← hji14, ← hji16]; first | rfl | (simp [errW_none, errW_some] <;> rfl)) | (simp [*, errW_none, errW_some] <;> rfl), by (try simp only [hji10, hji14, hji16]); repeat (first | (with_reducible first | exact HI0.out | apply IsS90.alloc | apply IsS90.drewN | apply IsS90.drew | apply IsS90.set_0 | apply IsS90.set_1 | apply IsS90.set_2) | exact HI0.out), by repeat (first | (with_reducible first | exact HB.out | apply below_alloc | apply pw_below_drewN | apply below_drew1 | refine below_set ?_ (IsS90.ge HI0.out)) | exact HB.out), by repeat (first | (with_reducible first | exact HK.out | apply KeepBut.set_ | apply keep_drewN | apply keep_drew | apply keep_alloc) | exact HK.out)⟩
        ·rw [if_neg c15] at H
         exact absurd H (by simp)
       ·rw [if_neg c12] at H
        exact absurd H (by simp)
      ·rw [if_neg c11] at H
       exact absurd H (by simp)
    ·rw [if_neg c5] at H
     have c5b0 : (x1002_1 == 0) = false := beq_eq_false_iff_ne.mpr c5
     have c5b1 : (x1002_1 != 0) = true := bne_iff_ne.mpr c5
     simp only [Option.some.injEq, Prod.mk.injEq] at H
     obtain ⟨rfl, rfl, rfl, rfl⟩ := H
     obtain ⟨HGz29, hgz29⟩ := HI0.out
     have hcz29_0 := cellS90_0 HGz29
     have hcz29_1 := cellS90_1 HGz29
     have hcz29_2 := cellS90_2 HGz29
     have hfz29_0 := blk_frozen HGz29 0
     have hfz29_1 := blk_frozen HGz29 1
     have hfz29_2 := blk_frozen HGz29 2
     clear HGz29 hgz29
     go_wp2
     go_ret
     exact ⟨by first | rfl | (simp [errW_none, errW_some] <;> rfl) | (simp [*, errW_none, errW_some] <;> rfl), by repeat (first | (with_reducible first | exact HI0.out | apply IsS90.alloc | apply IsS90.drewN | apply IsS90.drew | apply IsS90.set_0 | apply IsS90.set_1 | apply IsS90.set_2) | exact HI0.out), by repeat (first | (with_reducible first | exact HB.out | apply below_alloc | apply pw_below_drewN | apply below_drew1 | refine below_set ?_ (IsS90.ge HI0.out)) | exact HB.out), by repeat (first | (with_reducible first | exact HK.out | apply KeepBut.set_ | apply keep_drewN | apply keep_drew | apply keep_alloc) | exact HK.out)⟩
   ·rw [if_neg c4] at H
    have c4b0 : decide (x13_1 < 9) = false := decide_eq_false c4
    clear c4
    replace H := Option.bind_eq_some_iff.mp H
    obtain ⟨⟨t228, t229, t230, t231⟩, A300, H⟩ := H
    replace H : (some (t228, t229, t230, t231)) = some (r1, r2, r3, r4) := H
    have A30 := Aside0.mk A300
    clear A300
    simp only [Option.some.injEq, Prod.mk.injEq] at H
    obtain ⟨rfl, rfl, rfl, rfl⟩ := H
    go_wp2_with (first | ((with_reducible refine gate_callee (f := 52) rfl ?_); refine goesL_ (some 83) rfl rfl Try.func52 (by kernel_rfl) rfl #[.pointer (some ⟨g, 0, none⟩), .int .i64 s0_1, .int .i64 3] rfl (by (try simp only [List.map_toArray, List.map_cons, List.map_nil]); first | done | rfl | (simp only [List.length_drop, List.length_take]; rfl)) ?_; (with_reducible refine (pack_reader_fail.calls g x1000_1 x1001_1 x1002_1 s0_1 3 t228 t229 t230 t231 w0 _ ?side1 ?side2 A30.out).mono ?_); (case side1 => repeat (first | (with_reducible first | exact HI0.out | apply IsS90.alloc | apply IsS90.drewN | apply IsS90.drew | apply IsS90.set_0 | apply IsS90.set_1 | apply IsS90.set_2) | exact HI0.out)); (case side2 => repeat (first | (with_reducible first | exact HB.out | apply below_alloc | apply pw_below_drewN | apply below_drew1 | refine below_set ?_ (IsS90.ge HI0.out)) | exact HB.out)); rintro e w31 ⟨rfl, hi, hb, hk⟩; refine ⟨_, rfl, ?_⟩; have n0_ := Aside0.mk (KeepBut.trans (by repeat (first | (with_reducible first | exact HK.out | apply KeepBut.set_ | apply keep_drewN | apply keep_drew | apply keep_alloc) | exact HK.out)) hk (.inl rfl)); have n1_ := Aside0.mk (hb); have n2_ := Aside0.mk (hi); clear HK; clear HB; clear HI0; have HK := n0_; have HB := n1_; have HI0 := n2_; clear n0_ n1_ n2_; (try clear hb); (try clear hb2); (try clear hk); (try clear hi)))
    go_ret
    exact ⟨by first | rfl | (simp [errW_none, errW_some] <;> rfl) | (simp [*, errW_none, errW_some] <;> rfl), by repeat (first | (with_reducible first | exact HI0.out | apply IsS90.alloc | apply IsS90.drewN | apply IsS90.drew | apply IsS90.set_0 | apply IsS90.set_1 | apply IsS90.set_2) | exact HI0.out), by repeat (first | (with_reducible first | exact HB.out | apply below_alloc | apply pw_below_drewN | apply below_drew1 | refine below_set ?_ (IsS90.ge HI0.out)) | exact HB.out), by repeat (first | (with_reducible first | exact HK.out | apply KeepBut.set_ | apply keep_drewN | apply keep_drew | apply keep_alloc) | exact HK.out)⟩
end Go.Proofs.Ytnbomedhehoflaa.Al

namespace Go.Proofs.Ytnbomedhehoflaa.Al
open Go.RowKit Go.Proofs.YtnbomedhehoflaaW.PrintWords Go.Proofs.YtnbomedhehoflaaW.PrintLast Go.Proofs.YtnbomedhehoflaaW.PrintMore
attribute [local go_sem] max2_int min2_int max_two min_two max_three min_three max_four min_four   -- for this text's walks alone
set_option linter.unusedVariables false
set_option linter.unusedSimpArgs false
def pack_reader_text.j0 : Nat → Int → Bool → ByteArray → Int → Int → Option (ByteArray × ByteArray × Int × Int)
 |0, _, _, _, _, _ => none
 |k + 1, x3, x25, x1000, x1001, x1002 => if x25 = true then ((pack_reader_fail.f x1000 x1001 x1002 (x1000.size : Int) 50).bind fun bt248 => (if bt248.2.2.2 = 0 then (if 0 ≤ (wrap64 ((wrap64 (bt248.2.2.1 + x3)) - x3)) then (if (wrap64 ((wrap64 (bt248.2.2.1 + x3)) - x3)) ≤ (wrap64 (bt248.2.2.1 + x3)) then (if (wrap64 (bt248.2.2.1 + x3)) ≤ (bt248.2.1.size : Int) then (some (bt248.2.1.extract ((wrap64 ((wrap64 (bt248.2.2.1 + x3)) - x3)) : Int).toNat ((wrap64 (bt248.2.2.1 + x3)) : Int).toNat, bt248.2.1, wrap64 (bt248.2.2.1 + x3), bt248.2.2.2)) else (none)) else (none)) else (none)) else (some ((⟨#[]⟩ : ByteArray), bt248.2.1, bt248.2.2.1, bt248.2.2.2)))) else (if x1002 = 0 then (if 0 ≤ (wrap64 ((wrap64 (x1001 + x3)) - x3)) then (if (wrap64 ((wrap64 (x1001 + x3)) - x3)) ≤ (wrap64 (x1001 + x3)) then (if (wrap64 (x1001 + x3)) ≤ (x1000.size : Int) then (some (x1000.extract ((wrap64 ((wrap64 (x1001 + x3)) - x3)) : Int).toNat ((wrap64 (x1001 + x3)) : Int).toNat, x1000, wrap64 (x1001 + x3), x1002)) else (none)) else (none)) else (none)) else (some ((⟨#[]⟩ : ByteArray), x1000, x1001, x1002)))
def pack_reader_text.f (k : Nat) (s0_0 : ByteArray) (s0_1 : Int) (s0_2 : Int) : Option (ByteArray × ByteArray × Int × Int) := (pack_reader_number.f k s0_0 s0_1 s0_2 4096).bind fun bt244 => (if bt244.2.2.2 = 0 then (pack_reader_text.j0 k (wrap64 (bt244.1)) (decide ((wrap64 (bt244.1)) > (wrap64 ((bt244.2.1.size : Int) - bt244.2.2.1)))) bt244.2.1 bt244.2.2.1 bt244.2.2.2) else (pack_reader_text.j0 k (wrap64 (bt244.1)) false bt244.2.1 bt244.2.2.1 bt244.2.2.2))
set_option maxHeartbeats 8000000 in
set_option maxRecDepth 100000 in
theorem pack_reader_text.calls (k : Nat) (g : Nat) (s0_0 : ByteArray) (s0_1 : Int) (s0_2 : Int) (r1 : ByteArray) (r2 : ByteArray) (r3 : Int) (r4 : Int) (w0 w : World) (hI : IsS90 w0 w g s0_0 s0_1 s0_2) (hB : Below w0.heap.size w0 w) (h : pack_reader_text.f k s0_0 s0_1 s0_2 = some (r1, r2, r3, r4)) :
  Calls Try.prog 51 #[.pointer (some ⟨g, 0, none⟩)] w fun e w' => e = .returned (.string r1) ∧ IsS90 w0 w' g r2 r3 r4 ∧ Below w0.heap.size w0 w' ∧ KeepBut w w' g none := by
 have HI0 := Aside0.mk hI
 have HK := Aside0.mk (KeepBut.refl w g none)
 have HL := Aside0.mk hB.size
 clear hI
 have HW0 := Aside0.mk hB.size
 have HB := Aside0.mk hB
 clear hB
 have H : ((pack_reader_number.f k s0_0 s0_1 s0_2 4096).bind fun bt244 => (if bt244.2.2.2 = 0 then (pack_reader_text.j0 k (wrap64 (bt244.1)) (decide ((wrap64 (bt244.1)) > (wrap64 ((bt244.2.1.size : Int) - bt244.2.2.1)))) bt244.2.1 bt244.2.2.1 bt244.2.2.2) else (pack_reader_text.j0 k (wrap64 (bt244.1)) false bt244.2.1 bt244.2.2.1 bt244.2.2.2))) = some (r1, r2, r3, r4) := h
 clear h
 replace H := Option.bind_eq_some_iff.mp H
 obtain ⟨⟨t244, t245, t246, t247⟩, A20, H⟩ := H
 replace H : (if t247 = 0 then (pack_reader_text.j0 k (wrap64 (t244)) (decide ((wrap64 (t244)) > (wrap64 ((t245.size : Int) - t246)))) t245 t246 t247) else (pack_reader_text.j0 k (wrap64 (t244)) false t245 t246 t247)) = some (r1, r2, r3, r4) := H
 have A2 := Aside0.mk A20
 clear A20
 have HC3 := Aside0.mk H
 clear H
 go_enter Try.func51, Try.ntmps51
 go_upto_region 2 with (first | (go_at_call 50; (with_reducible refine (pack_reader_number.calls k g s0_0 s0_1 s0_2 4096 t244 t245 t246 t247 w0 _ ?side1 ?side2 A2.out).mono ?_); (case side1 => repeat (first | (with_reducible first | exact HI0.out | apply IsS90.alloc | apply IsS90.drewN | apply IsS90.drew | apply IsS90.set_0 | apply IsS90.set_1 | apply IsS90.set_2) | exact HI0.out)); (case side2 => repeat (first | (with_reducible first | exact HB.out | apply below_alloc | apply pw_below_drewN | apply below_drew1 | refine below_set ?_ (IsS90.ge HI0.out)) | exact HB.out)); rintro e w4 ⟨rfl, hi, hb, hk⟩; have n0_ := Aside0.mk (KeepBut.trans (by repeat (first | (with_reducible first | exact HK.out | apply KeepBut.set_ | apply keep_drewN | apply keep_drew | apply keep_alloc) | exact HK.out)) hk (.inl rfl)); have n1_ := Aside0.mk (hb); have n2_ := Aside0.mk (hi); clear HK; clear HB; clear HI0; have HK := n0_; have HB := n1_; have HI0 := n2_; clear n0_ n1_ n2_; (try clear hb); (try clear hb2); (try clear hk); (try clear hi)))
 repeat (go_quiet (first | (go_at_call 50; (with_reducible refine (pack_reader_number.calls k g s0_0 s0_1 s0_2 4096 t244 t245 t246 t247 w0 _ ?side1 ?side2 A2.out).mono ?_); (case side1 => repeat (first | (with_reducible first | exact HI0.out | apply IsS90.alloc | apply IsS90.drewN | apply IsS90.drew | apply IsS90.set_0 | apply IsS90.set_1 | apply IsS90.set_2) | exact HI0.out)); (case side2 => repeat (first | (with_reducible first | exact HB.out | apply below_alloc | apply pw_below_drewN | apply below_drew1 | refine below_set ?_ (IsS90.ge HI0.out)) | exact HB.out)); rintro e w4 ⟨rfl, hi, hb, hk⟩; have n0_ := Aside0.mk (KeepBut.trans (by repeat (first | (with_reducible first | exact HK.out | apply KeepBut.set_ | apply keep_drewN | apply keep_drew | apply keep_alloc) | exact HK.out)) hk (.inl rfl)); have n1_ := Aside0.mk (hb); have n2_ := Aside0.mk (hi); clear HK; clear HB; clear HI0; have HK := n0_; have HB := n1_; have HI0 := n2_; clear n0_ n1_ n2_; (try clear hb); (try clear hb2); (try clear hk); (try clear hi))); go_upto_region 2 with (first | (go_at_call 50; (with_reducible refine (pack_reader_number.calls k g s0_0 s0_1 s0_2 4096 t244 t245 t246 t247 w0 _ ?side1 ?side2 A2.out).mono ?_); (case side1 => repeat (first | (with_reducible first | exact HI0.out | apply IsS90.alloc | apply IsS90.drewN | apply IsS90.drew | apply IsS90.set_0 | apply IsS90.set_1 | apply IsS90.set_2) | exact HI0.out)); (case side2 => repeat (first | (with_reducible first | exact HB.out | apply below_alloc | apply pw_below_drewN | apply below_drew1 | refine below_set ?_ (IsS90.ge HI0.out)) | exact HB.out)); rintro e w4 ⟨rfl, hi, hb, hk⟩; have n0_ := Aside0.mk (KeepBut.trans (by repeat (first | (with_reducible first | exact HK.out | apply KeepBut.set_ | apply keep_drewN | apply keep_drew | apply keep_alloc) | exact HK.out)) hk (.inl rfl)); have n1_ := Aside0.mk (hb); have n2_ := Aside0.mk (hi); clear HK; clear HB; clear HI0; have HK := n0_; have HB := n1_; have HI0 := n2_; clear n0_ n1_ n2_; (try clear hb); (try clear hb2); (try clear hk); (try clear hi))))
 (try simp only [Act.put, List.setIfInBounds_toArray, List.set_cons_zero, List.set_cons_succ])
 go_cut [25] (fun v25 wc => ∃ (kq : Nat) (x25_2 : Bool), v25 = .bool x25_2 ∧ Aside0 (pack_reader_text.j0 kq (wrap64 (t244)) x25_2 t245 t246 t247 = some (r1, r2, r3, r4)) ∧ Aside0 (kq ≤ k) ∧ Aside0 (IsS90 w0 wc g t245 t246 t247) ∧ Aside0 (KeepBut w wc g none) ∧ Aside0 (Below w0.heap.size w0 wc))
 case first =>
  have H := HC3.out
  clear HC3
  by_cases c5 : t247 = 0
  ·rw [if_pos c5] at H
   have c5b0 : (t247 == 0) = true := beq_iff_eq.mpr c5
   have c5b1 : (t247 != 0) = false := bne_eq_false_iff_eq.mpr c5
   clear c5
   (first | rw [c5b0] | (simp only [i64_w, i32_w]; rw [c5b0]) | skip)
   have H' := Aside0.mk H
   clear H
   obtain ⟨HGz6, hgz6⟩ := HI0.out
   have hcz6_0 := cellS90_0 HGz6
   have hcz6_1 := cellS90_1 HGz6
   have hcz6_2 := cellS90_2 HGz6
   have hfz6_0 := blk_frozen HGz6 0
   have hfz6_1 := blk_frozen HGz6 1
   have hfz6_2 := blk_frozen HGz6 2
   clear HGz6 hgz6
   go_wp2
   repeat (go_quiet (fail); try go_wp2)
   go_meet
   case rel => exact ⟨_, (decide ((wrap64 (t244)) > (wrap64 ((t245.size : Int) - t246)))), (by first | rfl | (simp; done) | (simp [*]; done)), H', ⟨by first | omega | exact Nat.le_refl _⟩, ⟨by repeat (first | (with_reducible first | exact HI0.out | apply IsS90.alloc | apply IsS90.drewN | apply IsS90.drew | apply IsS90.set_0 | apply IsS90.set_1 | apply IsS90.set_2) | exact HI0.out)⟩, ⟨by repeat (first | (with_reducible first | exact HK.out | apply KeepBut.set_ | apply keep_drewN | apply keep_drew | apply keep_alloc) | exact HK.out)⟩, ⟨by repeat (first | (with_reducible first | exact HB.out | apply below_alloc | apply pw_below_drewN | apply below_drew1 | refine below_set ?_ (IsS90.ge HI0.out)) | exact HB.out)⟩⟩
  ·rw [if_neg c5] at H
   have c5b0 : (t247 == 0) = false := beq_eq_false_iff_ne.mpr c5
   have c5b1 : (t247 != 0) = true := bne_iff_ne.mpr c5
   (first | rw [c5b0] | (simp only [i64_w, i32_w]; rw [c5b0]) | skip)
   have H' := Aside0.mk H
   clear H
   obtain ⟨HGz7, hgz7⟩ := HI0.out
   have hcz7_0 := cellS90_0 HGz7
   have hcz7_1 := cellS90_1 HGz7
   have hcz7_2 := cellS90_2 HGz7
   have hfz7_0 := blk_frozen HGz7 0
   have hfz7_1 := blk_frozen HGz7 1
   have hfz7_2 := blk_frozen HGz7 2
   clear HGz7 hgz7
   go_wp2
   repeat (go_quiet (fail); try go_wp2)
   go_meet
   case rel => exact ⟨_, (false), (by first | rfl | (simp; done) | (simp [*]; done)), H', ⟨by first | omega | exact Nat.le_refl _⟩, ⟨by repeat (first | (with_reducible first | exact HI0.out | apply IsS90.alloc | apply IsS90.drewN | apply IsS90.drew | apply IsS90.set_0 | apply IsS90.set_1 | apply IsS90.set_2) | exact HI0.out)⟩, ⟨by repeat (first | (with_reducible first | exact HK.out | apply KeepBut.set_ | apply keep_drewN | apply keep_drew | apply keep_alloc) | exact HK.out)⟩, ⟨by repeat (first | (with_reducible first | exact HB.out | apply below_alloc | apply pw_below_drewN | apply below_drew1 | refine below_set ?_ (IsS90.ge HI0.out)) | exact HB.out)⟩⟩
 case rest =>
  clear HC3
  (try clear p2); (try clear c5); (try clear c5b0); (try clear c5b1); (try clear p6); (try clear hcz6_0); (try clear hcz6_1); (try clear hcz6_2); (try clear hcz7_0); (try clear hcz7_1); (try clear hcz7_2); (try clear hfz6_0); (try clear hfz6_1); (try clear hfz6_2); (try clear hfz7_0); (try clear hfz7_1); (try clear hfz7_2)
  obtain ⟨kq, x25_2, rfl, HA, HJ2, HI0, HK, HB⟩ := hcut
  cases kq with
  |zero => exact absurd HA.out (by simp [pack_reader_text.j0])
  |succ kj2 =>
   have H := HA.out
   clear HA
   simp only [pack_reader_text.j0] at H
   by_cases c8 : x25_2 = true
   ·subst c8
    have H1 : ((pack_reader_fail.f t245 t246 t247 (t245.size : Int) 50).bind fun bt248 => (if bt248.2.2.2 = 0 then (if 0 ≤ (wrap64 ((wrap64 (bt248.2.2.1 + (wrap64 (t244)))) - (wrap64 (t244)))) then (if (wrap64 ((wrap64 (bt248.2.2.1 + (wrap64 (t244)))) - (wrap64 (t244)))) ≤ (wrap64 (bt248.2.2.1 + (wrap64 (t244)))) then (if (wrap64 (bt248.2.2.1 + (wrap64 (t244)))) ≤ (bt248.2.1.size : Int) then (some (bt248.2.1.extract ((wrap64 ((wrap64 (bt248.2.2.1 + (wrap64 (t244)))) - (wrap64 (t244)))) : Int).toNat ((wrap64 (bt248.2.2.1 + (wrap64 (t244)))) : Int).toNat, bt248.2.1, wrap64 (bt248.2.2.1 + (wrap64 (t244))), bt248.2.2.2)) else (none)) else (none)) else (none)) else (some ((⟨#[]⟩ : ByteArray), bt248.2.1, bt248.2.2.1, bt248.2.2.2)))) = some (r1, r2, r3, r4) := by rw [if_pos rfl] at H; exact H
    clear H
    have H := H1
    clear H1
    replace H := Option.bind_eq_some_iff.mp H
    obtain ⟨⟨t248, t249, t250, t251⟩, A90, H⟩ := H
    replace H : (if t251 = 0 then (if 0 ≤ (wrap64 ((wrap64 (t250 + (wrap64 (t244)))) - (wrap64 (t244)))) then (if (wrap64 ((wrap64 (t250 + (wrap64 (t244)))) - (wrap64 (t244)))) ≤ (wrap64 (t250 + (wrap64 (t244)))) then (if (wrap64 (t250 + (wrap64 (t244)))) ≤ (t249.size : Int) then (some (t249.extract ((wrap64 ((wrap64 (t250 + (wrap64 (t244)))) - (wrap64 (t244)))) : Int).toNat ((wrap64 (t250 + (wrap64 (t244)))) : Int).toNat, t249, wrap64 (t250 + (wrap64 (t244))), t251)) else (none)) else (none)) else (none)) else (some ((⟨#[]⟩ : ByteArray), t249, t250, t251))) = some (r1, r2, r3, r4) := H
    have A9 := Aside0.mk A90
    clear A90
    by_cases c10 : t251 = 0
    ·rw [if_pos c10] at H
     have c10b0 : (t251 == 0) = true := beq_iff_eq.mpr c10
     have c10b1 : (t251 != 0) = false := bne_eq_false_iff_eq.mpr c10
     clear c10
     obtain ⟨ji11, hji11⟩ : ∃ j_ : Int, (wrap64 ((wrap64 (t250 + (wrap64 (t244)))) - (wrap64 (t244)))) = j_ := ⟨_, rfl⟩
     replace H : (if 0 ≤ (ji11) then (if (ji11) ≤ (wrap64 (t250 + (wrap64 (t244)))) then (if (wrap64 (t250 + (wrap64 (t244)))) ≤ (t249.size : Int) then (some (t249.extract ((ji11) : Int).toNat ((wrap64 (t250 + (wrap64 (t244)))) : Int).toNat, t249, wrap64 (t250 + (wrap64 (t244))), t251)) else (none)) else (none)) else (none)) = some (r1, r2, r3, r4) := by first | (rw [hji11] at H; exact H) | (simp only [hji11] at H ⊢; exact H)
     (try rw [hji11] at A9)
     have hji11w : (IntKind.i64.wrap ((wrap64 (t250 + (wrap64 (t244)))) - (wrap64 (t244)))) = ji11 := (i64_w _).trans hji11
     by_cases c12 : 0 ≤ (ji11)
     ·rw [if_pos c12] at H
      have c12b0 := eq_true c12
      have c12b1 : decide (0 ≤ (ji11)) = true := decide_eq_true c12
      clear c12
      by_cases c13 : (ji11) ≤ (wrap64 (t250 + (wrap64 (t244))))
      ·rw [if_pos c13] at H
       have c13b0 := eq_true c13
       have c13b1 : decide ((ji11) ≤ (wrap64 (t250 + (wrap64 (t244))))) = true := decide_eq_true c13
       by_cases c14 : (wrap64 (t250 + (wrap64 (t244)))) ≤ (t249.size : Int)
       ·rw [if_pos c14] at H
        have c14b0 := eq_true c14
        have c14b1 : decide ((wrap64 (t250 + (wrap64 (t244)))) ≤ (t249.size : Int)) = true := decide_eq_true c14
        simp only [Option.some.injEq, Prod.mk.injEq] at H
        obtain ⟨rfl, rfl, rfl, rfl⟩ := H
        obtain ⟨HGz15, hgz15⟩ := HI0.out
        have hcz15_0 := cellS90_0 HGz15
        have hcz15_1 := cellS90_1 HGz15
        have hcz15_2 := cellS90_2 HGz15
        have hfz15_0 := blk_frozen HGz15 0
        have hfz15_1 := blk_frozen HGz15 1
        have hfz15_2 := blk_frozen HGz15 2
        clear HGz15 hgz15
        go_wp2_with (first | (go_at_call 52; (with_reducible refine (pack_reader_fail.calls g t245 t246 t247 (t245.size : Int) 50 t248 t249 t250 t251 w0 _ ?side1 ?side2 A9.out).mono ?_); (case side1 => repeat (first | (with_reducible first | exact HI0.out | apply IsS90.alloc | apply IsS90.drewN | apply IsS90.drew | apply IsS90.set_0 | apply IsS90.set_1 | apply IsS90.set_2) | exact HI0.out)); (case side2 => repeat (first | (with_reducible first | exact HB.out | apply below_alloc | apply pw_below_drewN | apply below_drew1 | refine below_set ?_ (IsS90.ge HI0.out)) | exact HB.out)); rintro e w16 ⟨rfl, hi, hb, hk⟩; have n0_ := Aside0.mk (KeepBut.trans (by repeat (first | (with_reducible first | exact HK.out | apply KeepBut.set_ | apply keep_drewN | apply keep_drew | apply keep_alloc) | exact HK.out)) hk (.inl rfl)); have n1_ := Aside0.mk (hb); have n2_ := Aside0.mk (hi); clear HK; clear HB; clear HI0; have HK := n0_; have HB := n1_; have HI0 := n2_; clear n0_ n1_ n2_; (try clear hb); (try clear hb2); (try clear hk); (try clear hi); obtain ⟨HGz17, hgz17⟩ := HI0.out; have hcz17_0 := cellS90_0 HGz17; have hcz17_1 := cellS90_1 HGz17; have hcz17_2 := cellS90_2 HGz17; have hfz17_0 := blk_frozen HGz17 0; have hfz17_1 := blk_frozen HGz17 1; have hfz17_2 := blk_frozen HGz17 2; clear HGz17 hgz17))
        repeat (go_quiet (first | (go_at_call 52; (with_reducible refine (pack_reader_fail.calls g t245 t246 t247 (t245.size : Int) 50 t248 t249 t250 t251 w0 _ ?side1 ?side2 A9.out).mono ?_); (case side1 => repeat (first | (with_reducible first | exact HI0.out | apply IsS90.alloc | apply IsS90.drewN | apply IsS90.drew | apply IsS90.set_0 | apply IsS90.set_1 | apply IsS90.set_2) | exact HI0.out)); (case side2 => repeat (first | (with_reducible first | exact HB.out | apply below_alloc | apply pw_below_drewN | apply below_drew1 | refine below_set ?_ (IsS90.ge HI0.out)) | exact HB.out)); rintro e w16 ⟨rfl, hi, hb, hk⟩; have n0_ := Aside0.mk (KeepBut.trans (by repeat (first | (with_reducible first | exact HK.out | apply KeepBut.set_ | apply keep_drewN | apply keep_drew | apply keep_alloc) | exact HK.out)) hk (.inl rfl)); have n1_ := Aside0.mk (hb); have n2_ := Aside0.mk (hi); clear HK; clear HB; clear HI0; have HK := n0_; have HB := n1_; have HI0 := n2_; clear n0_ n1_ n2_; (try clear hb); (try clear hb2); (try clear hk); (try clear hi); obtain ⟨HGz17, hgz17⟩ := HI0.out; have hcz17_0 := cellS90_0 HGz17; have hcz17_1 := cellS90_1 HGz17; have hcz17_2 := cellS90_2 HGz17; have hfz17_0 := blk_frozen HGz17 0; have hfz17_1 := blk_frozen HGz17 1; have hfz17_2 := blk_frozen HGz17 2; clear HGz17 hgz17)); try go_wp2_with (first | (go_at_call 52; (with_reducible refine (pack_reader_fail.calls g t245 t246 t247 (t245.size : Int) 50 t248 t249 t250 t251 w0 _ ?side1 ?side2 A9.out).mono ?_); (case side1 => repeat (first | (with_reducible first | exact HI0.out | apply IsS90.alloc | apply IsS90.drewN | apply IsS90.drew | apply IsS90.set_0 | apply IsS90.set_1 | apply IsS90.set_2) | exact HI0.out)); (case side2 => repeat (first | (with_reducible first | exact HB.out | apply below_alloc | apply pw_below_drewN | apply below_drew1 | refine below_set ?_ (IsS90.ge HI0.out)) | exact HB.out)); rintro e w16 ⟨rfl, hi, hb, hk⟩; have n0_ := Aside0.mk (KeepBut.trans (by repeat (first | (with_reducible first | exact HK.out | apply KeepBut.set_ | apply keep_drewN | apply keep_drew | apply keep_alloc) | exact HK.out)) hk (.inl rfl)); have n1_ := Aside0.mk (hb); have n2_ := Aside0.mk (hi); clear HK; clear HB; clear HI0; have HK := n0_; have HB := n1_; have HI0 := n2_; clear n0_ n1_ n2_; (try clear hb); (try clear hb2); (try clear hk); (try clear hi); obtain ⟨HGz17, hgz17⟩ := HI0.out; have hcz17_0 := cellS90_0 HGz17; have hcz17_1 := cellS90_1 HGz17; have hcz17_2 := cellS90_2 HGz17; have hfz17_0 := blk_frozen HGz17 0; have hfz17_1 := blk_frozen HGz17 1; have hfz17_2 := blk_frozen HGz17 2; clear HGz17 hgz17)))
        go_ret
        exact ⟨by first | rfl | (simp [errW_none, errW_some] <;> rfl) | (simp only [← hji11]; first | rfl | (simp [errW_none, errW_some] <;> rfl)) | (simp [*, errW_none, errW_some] <;> rfl), by (try simp only [hji11]); repeat (first | (with_reducible first | exact HI0.out | apply IsS90.alloc | apply IsS90.drewN | apply IsS90.drew | apply IsS90.set_0 | apply IsS90.set_1 | apply IsS90.set_2) | exact HI0.out), by repeat (first | (with_reducible first | exact HB.out | apply below_alloc | apply pw_below_drewN | apply below_drew1 | refine below_set ?_ (IsS90.ge HI0.out)) | exact HB.out), by repeat (first | (with_reducible first | exact HK.out | apply KeepBut.set_ | apply keep_drewN | apply keep_drew | apply keep_alloc) | exact HK.out)⟩
       ·rw [if_neg c14] at H
        exact absurd H (by simp)
      ·rw [if_neg c13] at H
       exact absurd H (by simp)
     ·rw [if_neg c12] at H
      exact absurd H (by simp)
    ·rw [if_neg c10] at H
     have c10b0 : (t251 == 0) = false := beq_eq_false_iff_ne.mpr c10
     have c10b1 : (t251 != 0) = true := bne_iff_ne.mpr c10
     simp only [Option.some.injEq, Prod.mk.injEq] at H
     obtain ⟨rfl, rfl, rfl, rfl⟩ := H
     obtain ⟨HGz18, hgz18⟩ := HI0.out
     have hcz18_0 := cellS90_0 HGz18
     have hcz18_1 := cellS90_1 HGz18
     have hcz18_2 := cellS90_2 HGz18
     have hfz18_0 := blk_frozen HGz18 0
     have hfz18_1 := blk_frozen HGz18 1
     have hfz18_2 := blk_frozen HGz18 2
     clear HGz18 hgz18
     go_wp2_with (first | (go_at_call 52; (with_reducible refine (pack_reader_fail.calls g t245 t246 t247 (t245.size : Int) 50 t248 t249 t250 t251 w0 _ ?side1 ?side2 A9.out).mono ?_); (case side1 => repeat (first | (with_reducible first | exact HI0.out | apply IsS90.alloc | apply IsS90.drewN | apply IsS90.drew | apply IsS90.set_0 | apply IsS90.set_1 | apply IsS90.set_2) | exact HI0.out)); (case side2 => repeat (first | (with_reducible first | exact HB.out | apply below_alloc | apply pw_below_drewN | apply below_drew1 | refine below_set ?_ (IsS90.ge HI0.out)) | exact HB.out)); rintro e w19 ⟨rfl, hi, hb, hk⟩; have n0_ := Aside0.mk (KeepBut.trans (by repeat (first | (with_reducible first | exact HK.out | apply KeepBut.set_ | apply keep_drewN | apply keep_drew | apply keep_alloc) | exact HK.out)) hk (.inl rfl)); have n1_ := Aside0.mk (hb); have n2_ := Aside0.mk (hi); clear HK; clear HB; clear HI0; have HK := n0_; have HB := n1_; have HI0 := n2_; clear n0_ n1_ n2_; (try clear hb); (try clear hb2); (try clear hk); (try clear hi); obtain ⟨HGz20, hgz20⟩ := HI0.out; have hcz20_0 := cellS90_0 HGz20; have hcz20_1 := cellS90_1 HGz20; have hcz20_2 := cellS90_2 HGz20; have hfz20_0 := blk_frozen HGz20 0; have hfz20_1 := blk_frozen HGz20 1; have hfz20_2 := blk_frozen HGz20 2; clear HGz20 hgz20))
     repeat (go_quiet (first | (go_at_call 52; (with_reducible refine (pack_reader_fail.calls g t245 t246 t247 (t245.size : Int) 50 t248 t249 t250 t251 w0 _ ?side1 ?side2 A9.out).mono ?_); (case side1 => repeat (first | (with_reducible first | exact HI0.out | apply IsS90.alloc | apply IsS90.drewN | apply IsS90.drew | apply IsS90.set_0 | apply IsS90.set_1 | apply IsS90.set_2) | exact HI0.out)); (case side2 => repeat (first | (with_reducible first | exact HB.out | apply below_alloc | apply pw_below_drewN | apply below_drew1 | refine below_set ?_ (IsS90.ge HI0.out)) | exact HB.out)); rintro e w19 ⟨rfl, hi, hb, hk⟩; have n0_ := Aside0.mk (KeepBut.trans (by repeat (first | (with_reducible first | exact HK.out | apply KeepBut.set_ | apply keep_drewN | apply keep_drew | apply keep_alloc) | exact HK.out)) hk (.inl rfl)); have n1_ := Aside0.mk (hb); have n2_ := Aside0.mk (hi); clear HK; clear HB; clear HI0; have HK := n0_; have HB := n1_; have HI0 := n2_; clear n0_ n1_ n2_; (try clear hb); (try clear hb2); (try clear hk); (try clear hi); obtain ⟨HGz20, hgz20⟩ := HI0.out; have hcz20_0 := cellS90_0 HGz20; have hcz20_1 := cellS90_1 HGz20; have hcz20_2 := cellS90_2 HGz20; have hfz20_0 := blk_frozen HGz20 0; have hfz20_1 := blk_frozen HGz20 1; have hfz20_2 := blk_frozen HGz20 2; clear HGz20 hgz20)); try go_wp2_with (first | (go_at_call 52; (with_reducible refine (pack_reader_fail.calls g t245 t246 t247 (t245.size : Int) 50 t248 t249 t250 t251 w0 _ ?side1 ?side2 A9.out).mono ?_); (case side1 => repeat (first | (with_reducible first | exact HI0.out | apply IsS90.alloc | apply IsS90.drewN | apply IsS90.drew | apply IsS90.set_0 | apply IsS90.set_1 | apply IsS90.set_2) | exact HI0.out)); (case side2 => repeat (first | (with_reducible first | exact HB.out | apply below_alloc | apply pw_below_drewN | apply below_drew1 | refine below_set ?_ (IsS90.ge HI0.out)) | exact HB.out)); rintro e w19 ⟨rfl, hi, hb, hk⟩; have n0_ := Aside0.mk (KeepBut.trans (by repeat (first | (with_reducible first | exact HK.out | apply KeepBut.set_ | apply keep_drewN | apply keep_drew | apply keep_alloc) | exact HK.out)) hk (.inl rfl)); have n1_ := Aside0.mk (hb); have n2_ := Aside0.mk (hi); clear HK; clear HB; clear HI0; have HK := n0_; have HB := n1_; have HI0 := n2_; clear n0_ n1_ n2_; (try clear hb); (try clear hb2); (try clear hk); (try clear hi); obtain ⟨HGz20, hgz20⟩ := HI0.out; have hcz20_0 := cellS90_0 HGz20; have hcz20_1 := cellS90_1 HGz20; have hcz20_2 := cellS90_2 HGz20; have hfz20_0 := blk_frozen HGz20 0; have hfz20_1 := blk_frozen HGz20 1; have hfz20_2 := blk_frozen HGz20 2; clear HGz20 hgz20)))
     go_ret
     exact ⟨by first | rfl | (simp [errW_none, errW_some] <;> rfl) | (simp [*, errW_none, errW_some] <;> rfl), by repeat (first | (with_reducible first | exact HI0.out | apply IsS90.alloc | apply IsS90.drewN | apply IsS90.drew | apply IsS90.set_0 | apply IsS90.set_1 | apply IsS90.set_2) | exact HI0.out), by repeat (first | (with_reducible first | exact HB.out | apply below_alloc | apply pw_below_drewN | apply below_drew1 | refine below_set ?_ (IsS90.ge HI0.out)) | exact HB.out), by repeat (first | (with_reducible first | exact HK.out | apply KeepBut.set_ | apply keep_drewN | apply keep_drew | apply keep_alloc) | exact HK.out)⟩
   ·replace c8 := Bool.eq_false_iff.mpr c8
    subst c8
    have H1 : (if t247 = 0 then (if 0 ≤ (wrap64 ((wrap64 (t246 + (wrap64 (t244)))) - (wrap64 (t244)))) then (if (wrap64 ((wrap64 (t246 + (wrap64 (t244)))) - (wrap64 (t244)))) ≤ (wrap64 (t246 + (wrap64 (t244)))) then (if (wrap64 (t246 + (wrap64 (t244)))) ≤ (t245.size : Int) then (some (t245.extract ((wrap64 ((wrap64 (t246 + (wrap64 (t244)))) - (wrap64 (t244)))) : Int).toNat ((wrap64 (t246 + (wrap64 (t244)))) : Int).toNat, t245, wrap64 (t246 + (wrap64 (t244))), t247)) else (none)) else (none)) else (none)) else (some ((⟨#[]⟩ : ByteArray), t245, t246, t247))) = some (r1, r2, r3, r4) := by rw [if_neg (show ¬ (false = true) by decide)] at H; exact H
    clear H
    have H := H1
    clear H1
    by_cases c21 : t247 = 0
    ·rw [if_pos c21] at H
     have c21b0 : (t247 == 0) = true := beq_iff_eq.mpr c21
     have c21b1 : (t247 != 0) = false := bne_eq_false_iff_eq.mpr c21
     clear c21
     obtain ⟨ji22, hji22⟩ : ∃ j_ : Int, (wrap64 ((wrap64 (t246 + (wrap64 (t244)))) - (wrap64 (t244)))) = j_ := ⟨_, rfl⟩
     replace H : (if 0 ≤ (ji22) then (if (ji22) ≤ (wrap64 (t246 + (wrap64 (t244)))) then (if (wrap64 (t246 + (wrap64 (t244)))) ≤ (t245.size : Int) then (some (t245.extract ((ji22) : Int).toNat ((wrap64 (t246 + (wrap64 (t244)))) : Int).toNat, t245, wrap64 (t246 + (wrap64 (t244))), t247)) else (none)) else (none)) else (none)) = some (r1, r2, r3, r4) := by first | (rw [hji22] at H; exact H) | (simp only [hji22] at H ⊢; exact H)
     have hji22w : (IntKind.i64.wrap ((wrap64 (t246 + (wrap64 (t244)))) - (wrap64 (t244)))) = ji22 := (i64_w _).trans hji22
     by_cases c23 : 0 ≤ (ji22)
     ·rw [if_pos c23] at H
      have c23b0 := eq_true c23
      have c23b1 : decide (0 ≤ (ji22)) = true := decide_eq_true c23
      clear c23
      by_cases c24 : (ji22) ≤ (wrap64 (t246 + (wrap64 (t244))))
      ·rw [if_pos c24] at H
       have c24b0 := eq_true c24
       have c24b1 : decide ((ji22) ≤ (wrap64 (t246 + (wrap64 (t244))))) = true := decide_eq_true c24
       by_cases c25 : (wrap64 (t246 + (wrap64 (t244)))) ≤ (t245.size : Int)
       ·rw [if_pos c25] at H
        have c25b0 := eq_true c25
        have c25b1 : decide ((wrap64 (t246 + (wrap64 (t244)))) ≤ (t245.size : Int)) = true := decide_eq_true c25
        simp only [Option.some.injEq, Prod.mk.injEq] at H
        obtain ⟨rfl, rfl, rfl, rfl⟩ := H
        obtain ⟨HGz26, hgz26⟩ := HI0.out
        have hcz26_0 := cellS90_0 HGz26
        have hcz26_1 := cellS90_1 HGz26
        have hcz26_2 := cellS90_2 HGz26
        have hfz26_0 := blk_frozen HGz26 0
        have hfz26_1 := blk_frozen HGz26 1
        have hfz26_2 := blk_frozen HGz26 2
        clear HGz26 hgz26
        go_wp2
        repeat (go_quiet (fail); try go_wp2)
        go_ret
        exact ⟨by first | rfl | (simp [errW_none, errW_some] <;> rfl) | (simp only [← hji22]; first | rfl | (simp [errW_none, errW_some] <;> rfl)) | (simp [*, errW_none, errW_some] <;> rfl), by (try simp only [hji22]); repeat (first | (with_reducible first | exact HI0.out | apply IsS90.alloc | apply IsS90.drewN | apply IsS90.drew | apply IsS90.set_0 | apply IsS90.set_1 | apply IsS90.set_2) | exact HI0.out), by repeat (first | (with_reducible first | exact HB.out | apply below_alloc | apply pw_below_drewN | apply below_drew1 | refine below_set ?_ (IsS90.ge HI0.out)) | exact HB.out), by repeat (first | (with_reducible first | exact HK.out | apply KeepBut.set_ | apply keep_drewN | apply keep_drew | apply keep_alloc) | exact HK.out)⟩
       ·rw [if_neg c25] at H
        exact absurd H (by simp)
      ·rw [if_neg c24] at H
       exact absurd H (by simp)
     ·rw [if_neg c23] at H
      exact absurd H (by simp)
    ·rw [if_neg c21] at H
     have c21b0 : (t247 == 0) = false := beq_eq_false_iff_ne.mpr c21
     have c21b1 : (t247 != 0) = true := bne_iff_ne.mpr c21
     simp only [Option.some.injEq, Prod.mk.injEq] at H
     obtain ⟨rfl, rfl, rfl, rfl⟩ := H
     obtain ⟨HGz27, hgz27⟩ := HI0.out
     have hcz27_0 := cellS90_0 HGz27
     have hcz27_1 := cellS90_1 HGz27
     have hcz27_2 := cellS90_2 HGz27
     have hfz27_0 := blk_frozen HGz27 0
     have hfz27_1 := blk_frozen HGz27 1
     have hfz27_2 := blk_frozen HGz27 2
     clear HGz27 hgz27
     go_wp2
     repeat (go_quiet (fail); try go_wp2)
     go_ret
     exact ⟨by first | rfl | (simp [errW_none, errW_some] <;> rfl) | (simp [*, errW_none, errW_some] <;> rfl), by repeat (first | (with_reducible first | exact HI0.out | apply IsS90.alloc | apply IsS90.drewN | apply IsS90.drew | apply IsS90.set_0 | apply IsS90.set_1 | apply IsS90.set_2) | exact HI0.out), by repeat (first | (with_reducible first | exact HB.out | apply below_alloc | apply pw_below_drewN | apply below_drew1 | refine below_set ?_ (IsS90.ge HI0.out)) | exact HB.out), by repeat (first | (with_reducible first | exact HK.out | apply KeepBut.set_ | apply keep_drewN | apply keep_drew | apply keep_alloc) | exact HK.out)⟩
-- NOT PRINTED: function 30 (pack_Decode)
-- NOT PRINTED: function 20 (letter_Decode)
-- NOT PRINTED: function 19 (net_Net_Inject)
-- NOT PRINTED: function 6 (corncriblaw15_NetBytes)
-- NOT PRINTED: function 21 (corncribref15_New)
end Go.Proofs.Ytnbomedhehoflaa.Al

namespace Go.Proofs.Ytnbomedhehoflaa.Al
open Go.RowKit Go.Proofs.YtnbomedhehoflaaW.PrintWords Go.Proofs.YtnbomedhehoflaaW.PrintLast Go.Proofs.YtnbomedhehoflaaW.PrintMore
attribute [local go_sem] max2_int min2_int max_two min_two max_three min_three max_four min_four   -- for this text's walks alone
set_option linter.unusedVariables false
set_option linter.unusedSimpArgs false
/-- A state of type 59 at block g of W; what its slices lead to came in by w0. -/
def IsS59 (w0 W : World) (g : Nat) (f0 : Int) (f1 : List (S32)) : Prop := ∃ A1 c1, W.heap[g]? = some (.cells #[.int .i64 f0, .slice A1 f1.length c1] 59 (0, 0)) ∧ w0.heap.size ≤ g ∧ Kd.C k32 w0 A1 f1.length f1
theorem IsS59.grown {w0 W : World} {g : Nat} {f0 : Int} {f1 : List (S32)} {W1 : World} {row : Option Nat} (h : IsS59 w0 W g f0 f1) (hw : W.grownBy W1 row) (hne : some g ≠ row) : IsS59 w0 W1 g f0 f1 := by
 obtain ⟨A1, c1, hb, hg, hr1⟩ := h
 exact ⟨A1, c1, blk_grown hb hw hne, hg, hr1⟩
theorem IsS59.kept {w0 W : World} {g : Nat} {f0 : Int} {f1 : List (S32)} {W1 : World} {S : Nat → Prop} (h : IsS59 w0 W g f0 f1) (hk : Kept W W1 S) (hne : ¬ S g) : IsS59 w0 W1 g f0 f1 := by
 obtain ⟨A1, c1, hb, hg, hr1⟩ := h
 exact ⟨A1, c1, blk_kept hb hk hne, hg, hr1⟩
theorem IsS59.below {w0 W : World} {g : Nat} {f0 : Int} {f1 : List (S32)} {W1 : World} (h : IsS59 w0 W g f0 f1) (hw : Below W.heap.size W W1) : IsS59 w0 W1 g f0 f1 := h.grown (grown_of_below hw none) (by simp)
theorem IsS59.alloc {w0 W : World} {g : Nat} {f0 : Int} {f1 : List (S32)} (h : IsS59 w0 W g f0 f1) (o : Obj) : IsS59 w0 (W.alloc o) g f0 f1 := h.below (below_alloc (Below.refl _ _) o)
theorem IsS59.drew {w0 W : World} {g : Nat} {f0 : Int} {f1 : List (S32)} (h : IsS59 w0 W g f0 f1) : IsS59 w0 W.drew g f0 f1 := h
theorem IsS59.apart {w0 W : World} {g : Nat} {f0 : Int} {f1 : List (S32)} {α : Type} {d : Kd α} {e : Nat} {base : Nat} {ok : Nat → Prop} {v : Value} {xs : List α} (h : IsS59 w0 W g f0 f1) (ho : d.R e W base ok v xs) (ht : ∀ q, q ∈ e :: d.E → q ≠ 59) : d.R e W base (fun k => ok k ∧ k ≠ g) v xs := by
 obtain ⟨A1, c1, hb, hg, hr1⟩ := h
 exact Kd.R_types ho hb ht
theorem IsS59.own_ne {w0 W : World} {g : Nat} {f0 : Int} {f1 : List (S32)} {α : Type} {d : Kd α} {e : Nat} {base : Nat} {ok : Nat → Prop} {v : Value} {xs : List α} (h : IsS59 w0 W g f0 f1) (ho : d.R e W base ok v xs) (ht : e ≠ 59) : some g ≠ v.ownBlock := by
 obtain ⟨A1, c1, hb, hg, hr1⟩ := h
 exact Kd.R_ne ho hb ht
theorem IsS59.lt {w0 W : World} {g : Nat} {f0 : Int} {f1 : List (S32)} (h : IsS59 w0 W g f0 f1) : g < W.heap.size := by
 obtain ⟨A1, c1, hb, hg, hr1⟩ := h
 exact blk_lt hb
theorem IsS59.ge {w0 W : World} {g : Nat} {f0 : Int} {f1 : List (S32)} (h : IsS59 w0 W g f0 f1) : w0.heap.size ≤ g := by
 obtain ⟨A1, c1, hb, hg, hr1⟩ := h
 exact hg
theorem IsS59.new (w0 W : World) (A1 : Option Addr) (c1 : Nat) (f0 : Int) (f1 : List (S32)) (hB : Below w0.heap.size w0 W) (hr1 : Kd.C k32 w0 A1 f1.length f1) : IsS59 w0 (W.alloc (.cells #[.int .i64 f0, .slice A1 f1.length c1] 59)) W.heap.size f0 f1 := ⟨A1, c1, by simpa using heap_alloc_new W _, hB.size, hr1⟩
end Go.Proofs.Ytnbomedhehoflaa.Al

namespace Go.Proofs.Ytnbomedhehoflaa.Al
open Go.RowKit Go.Proofs.YtnbomedhehoflaaW.PrintWords Go.Proofs.YtnbomedhehoflaaW.PrintLast Go.Proofs.YtnbomedhehoflaaW.PrintMore
attribute [local go_sem] max2_int min2_int max_two min_two max_three min_three max_four min_four   -- for this text's walks alone
set_option linter.unusedVariables false
set_option linter.unusedSimpArgs false
end Go.Proofs.Ytnbomedhehoflaa.Al

namespace Go.Proofs.Ytnbomedhehoflaa.Al
open Go.RowKit Go.Proofs.YtnbomedhehoflaaW.PrintWords Go.Proofs.YtnbomedhehoflaaW.PrintLast Go.Proofs.YtnbomedhehoflaaW.PrintMore
attribute [local go_sem] max2_int min2_int max_two min_two max_three min_three max_four min_four   -- for this text's walks alone
set_option linter.unusedVariables false
set_option linter.unusedSimpArgs false
end Go.Proofs.Ytnbomedhehoflaa.Al
