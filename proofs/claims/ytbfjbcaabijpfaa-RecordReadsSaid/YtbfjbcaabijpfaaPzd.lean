/- What the laws stand on, in one text: functions of the program by their contracts, the plain mathematics behind them, and such of the printed words as these use. It began as the kit's print and own texts; put together by a program (trim.py). -/
import Derived.Test.YtbfjbcaabijpfaaPzc
import Derived.Deep.RegionHeld3
import Derived.Deep.RegionLaw
import Derived.IntWalk

namespace Go.Proofs.Ytbfjbcaabijpfaa.Al
open Go.RowKit Go.Proofs.RegT Go.Proofs.Ytbfjbcaabijpfaa.Base Go.Proofs.Ytbfjbcaabijpfaa.LetSpec Go.Proofs.YtbfjbcaabijpfaaW.PrintWords Go.Proofs.YtbfjbcaabijpfaaW.PrintLast Go.Proofs.YtbfjbcaabijpfaaW.PrintMore
set_option linter.unusedVariables false
set_option linter.unusedSimpArgs false
open Bool renaming true → T, false → F
def oneI (b : Bool) : Int := if b = true then 1 else 0
theorem one_calls (b : Bool) (w : World) : Calls Try.prog 20 #[.bool b] w fun e w' => e = .returned (.int .i64 (oneI b)) ∧ Below w.heap.size w w' := by
 refine (record_one.calls b (oneI b) w (by cases b <;> rfl)).mono ?_
 rintro e w' ⟨rfl, hd⟩
 obtain ⟨nd, rfl⟩ := hd.out
 exact ⟨rfl, pw_below_drewN (Below.refl _ _) _⟩
def flagsOf (l : List S50) : List Int := l.map fun x => oneI x.f2
def pairsOf (l : List S50) : List ByteArray := (l.map fun x => [x.f0, x.f1]).flatten
def record_Encode.f (k : Nat) (a0_0 : Int) (a0_1 : Int) (a0_2 : Int) (a0_3 : Int) (a0_4 : ByteArray) (a0_5 : ByteArray) (a0_6 : Bool) (l0_7 : List ByteArray) (l0_8 : List (S50)) : Option (ByteArray × Int) :=
 (record_Check.f a0_0 a0_1 a0_2 a0_3 a0_4 a0_5 a0_6 l0_7 l0_8).bind fun t => if t = 0 then (if l0_7.length ≤ 1000000 ∧ l0_8.length ≤ 1000000 then pack_Encode.f k ([a0_0, a0_1, a0_2, a0_3, oneI a0_6, (l0_7.length : Int)] ++ flagsOf l0_8) ([a0_4, a0_5] ++ l0_7 ++ pairsOf l0_8) else none) else some ((⟨#[]⟩ : ByteArray), t)
/-- The pack under way: the letter's block gl, the pack's block gp, its slices. -/
structure PE (w0 W : World) (gl : Nat) (cs : Array Value) (gp : Nat) (xs : List Int) (ts : List ByteArray) (vN vT : Value) : Prop where
 bl : W.heap[gl]? = some (.cells cs 25 (0, 0))
 bp : W.heap[gp]? = some (.cells #[vN, vT] 48 (0, 0))
 gep : w0.heap.size ≤ gp
 ns : (Kd.int .i64).R 3 W w0.heap.size (fun _ => True) vN xs
 ts : Kd.string.R 9 W w0.heap.size (fun _ => True) vT ts
 bel : Below w0.heap.size w0 W
theorem blkFar {W : World} {g : Nat} {o : Obj} (h : W.heap[g]? = some o) (p : Addr) (hne : g ≠ p.block) (u : Value) : (W.setCell p u).heap[g]? = some o := (Below.heap_setCell W p u g hne).trans h
theorem blkNe {W : World} {g g' t t' : Nat} {cs cs' : Array Value} (h : W.heap[g]? = some (.cells cs t (0, 0))) (h' : W.heap[g']? = some (.cells cs' t' (0, 0))) (ht : t ≠ t') : g ≠ g' := by
 rintro rfl
 rw [h] at h'
 injection h' with h'
 injection h' with _ h'
 exact ht h'
section
variable {w0 W : World} {gl gp : Nat} {cs : Array Value} {xs : List Int} {ts : List ByteArray} {vN vT : Value}
theorem PE.below {W1 : World} (h : PE w0 W gl cs gp xs ts vN vT) (hb : Below W.heap.size W W1) : PE w0 W1 gl cs gp xs ts vN vT where
 bl := blk_below h.bl hb
 bp := blk_below h.bp hb
 gep := h.gep
 ns := Kd.R_below h.ns hb
 ts := Kd.R_below h.ts hb
 bel := below_step h.bel hb
theorem PE.set (h : PE w0 W gl cs gp xs ts vN vT) {g : Nat} {cs' : Array Value} (hq : W.heap[g]? = some (.cells cs' 50 (0, 0))) (hge : w0.heap.size ≤ g) (j : Nat) (u : Value) : PE w0 (W.setCell ⟨g, j, none⟩ u) gl cs gp xs ts vN vT where
 bl := blkFar h.bl _ (blkNe h.bl hq (by decide)) u
 bp := blkFar h.bp _ (blkNe h.bp hq (by decide)) u
 gep := h.gep
 ns := Kd.R_set h.ns hq (by decide) j u
 ts := Kd.R_set h.ts hq (by decide) j u
 bel := below_set h.bel hge
theorem PE.drew (h : PE w0 W gl cs gp xs ts vN vT) : PE w0 W.drew gl cs gp xs ts vN vT := h.below (below_drew (Below.refl _ _))
/-- The new slices are stored. -/
theorem PE.of {w3 : World} {vN' vT' : Value} (hl : w3.heap[gl]? = some (.cells cs 25 (0, 0))) (hb : Below w0.heap.size w0 w3) (hn : (Kd.int .i64).R 3 w3 w0.heap.size (fun _ => True) vN xs) (ht : Kd.string.R 9 w3 w0.heap.size (fun _ => True) vT ts) (hq : w3.heap[gp]? = some (.cells #[vN', vT'] 48 (0, 0))) (hge : w0.heap.size ≤ gp) : PE w0 ((w3.setCell ⟨gp, 0, none⟩ vN).setCell ⟨gp, 1, none⟩ vT) gl cs gp xs ts vN vT where
 bl := blkFar (blkFar hl _ (blkNe hl hq (by decide)) _) _ (blkNe hl hq (by decide)) _
 bp := by simpa using blk_set (blk_set hq 0 vN) 1 vT
 gep := hge
 ns := Kd.R_set (Kd.R_set hn hq (by decide) 0 vN) (by simpa using blk_set hq 0 vN) (by decide) 1 vT
 ts := Kd.R_set (Kd.R_set ht hq (by decide) 0 vN) (by simpa using blk_set hq 0 vN) (by decide) 1 vT
 bel := below_set (below_set hb hge) hge
theorem round_less {n i : Nat} {x : Int} (hx : x = (i : Int)) (h : i < n) : n - (intOf (.int .i64 (x + 1))).toNat < n - (intOf (.int .i64 x)).toNat := by simp [intOf]; omega
theorem pairs_len (l : List S50) : (pairsOf l).length = 2 * l.length := by
 unfold pairsOf
 induction l with
 |nil => rfl
 |cons x l ih => simp only [List.map_cons, List.flatten_cons, List.length_append, List.length_cons, List.length_nil]; omega
theorem flags_step {l : List S50} {i : Nat} (h : i < l.length) : flagsOf (l.take (i + 1)) = flagsOf (l.take i) ++ [oneI l[i].f2] := by unfold flagsOf; rw [List.take_succ_eq_append_getElem h, List.map_append]; rfl
theorem pairs_step {l : List S50} {i : Nat} (h : i < l.length) : pairsOf (l.take (i + 1)) = pairsOf (l.take i) ++ [l[i].f0, l[i].f1] := by unfold pairsOf; rw [List.take_succ_eq_append_getElem h, List.map_append, List.flatten_append]; simp only [List.map_cons, List.map_nil, List.flatten_cons, List.flatten_nil, List.append_nil]
end
theorem reps_ints (W : World) (base : Nat) (ok : Nat → Prop) (l : List Int) : Reps ((Kd.int .i64).M W base ok) 1 l (l.map (Value.int .i64)) :=
 ⟨by simp, fun j p hj => by
  have h : (l.map (Value.int .i64))[j]? = some (.int .i64 p) := by rw [List.getElem?_map, hj]; rfl
  obtain ⟨h1, h2⟩ := List.getElem?_eq_some_iff.1 h
  show (List.drop (j * 1) _).take 1 = [Value.int .i64 p]
  rw [Nat.mul_one, List.drop_eq_getElem_cons h1, h2]
  rfl⟩
theorem reps_texts (W : World) (base : Nat) (ok : Nat → Prop) (l : List ByteArray) : Reps (Kd.string.M W base ok) 1 l (l.map Value.string) :=
 ⟨by simp, fun j p hj => by
  have h : (l.map Value.string)[j]? = some (.string p) := by rw [List.getElem?_map, hj]; rfl
  obtain ⟨h1, h2⟩ := List.getElem?_eq_some_iff.1 h
  show (List.drop (j * 1) _).take 1 = [Value.string p]
  rw [Nat.mul_one, List.drop_eq_getElem_cons h1, h2]
  rfl⟩
theorem step_alloc {P : Program} {ops : Array Oper} {o : Oper} {a : Act} {W : World} {Q : Exit → Act → World → Prop} {Kc : Act → World → Prop} {ob : Obj} (hw : Region.wanted o (yielded ops a.tmps) = true) (hrun : (execOp a.eval o).run P W = .ok (.value (.pointer (some ⟨W.heap.size, 0, none⟩))) (W.alloc ob))
  (h : ∀ w1 gz, w1.heap[gz]? = some ob → W.heap.size ≤ gz → Below W.heap.size W w1 → Kc (a.put o.dst (.pointer (some ⟨gz, 0, none⟩))) w1) : if Region.wanted o (yielded ops a.tmps) = true then Oper.wp P o a W Kc Q else Kc (a.put o.dst undef) W :=
 event_step hw hrun (h (W.alloc ob) W.heap.size (blk_new _ _) (Nat.le_refl _) (below_alloc (Below.refl _ _) _))
theorem keep8 {W : World} {gl : Nat} {b0 b1 b2 b3 : Int} {b4 b5 : ByteArray} {t : Bool} {A7 A8 : Option Addr} {n7 c7 n8 c8 : Nat} (h : W.heap[gl]? = some (.cells #[.int .i64 b0, .int .i64 b1, .int .i64 b2, .int .i64 b3, .string b4, .string b5, .bool t, .slice A7 n7 c7, .slice A8 n8 c8] 25 (0, 0))) : W.cell? ⟨gl, 0, none⟩ = some (.int .i64 b0) ∧ W.cell? ⟨gl, 1, none⟩ = some (.int .i64 b1) ∧ W.cell? ⟨gl, 2, none⟩ = some (.int .i64 b2) ∧ W.cell? ⟨gl, 3, none⟩ = some (.int .i64 b3) ∧ W.cell? ⟨gl, 4, none⟩ = some (.string b4) ∧ W.cell? ⟨gl, 5, none⟩ = some (.string b5) ∧ W.cell? ⟨gl, 6, none⟩ = some (.bool t) ∧ W.cell? ⟨gl, 7, none⟩ = some (.slice A7 n7 c7) :=
 ⟨(blk_cell h 0).trans rfl, (blk_cell h 1).trans rfl, (blk_cell h 2).trans rfl, (blk_cell h 3).trans rfl, (blk_cell h 4).trans rfl, (blk_cell h 5).trans rfl, (blk_cell h 6).trans rfl, (blk_cell h 7).trans rfl⟩
set_option maxHeartbeats 8000000 in
set_option maxRecDepth 100000 in
theorem record_Encode.calls (k : Nat) (a0_0 : Int) (a0_1 : Int) (a0_2 : Int) (a0_3 : Int) (a0_4 : ByteArray) (a0_5 : ByteArray) (a0_6 : Bool) (A0_7 : Option Addr) (c0_7 : Nat) (l0_7 : List ByteArray) (A0_8 : Option Addr) (c0_8 : Nat) (l0_8 : List (S50)) (r1 : ByteArray) (r2 : Int) (w : World) (hr0_7 : Kd.C Kd.string w A0_7 l0_7.length l0_7) (hc0_7 : l0_7.length ≤ c0_7) (hr0_8 : Kd.C k50 w A0_8 l0_8.length l0_8) (hc0_8 : l0_8.length ≤ c0_8) (h : record_Encode.f k a0_0 a0_1 a0_2 a0_3 a0_4 a0_5 a0_6 l0_7 l0_8 = some (r1, r2)) :
  Calls Try.prog 9 #[.agg #[.int .i64 a0_0, .int .i64 a0_1, .int .i64 a0_2, .int .i64 a0_3, .string a0_4, .string a0_5, .bool a0_6, .slice A0_7 l0_7.length c0_7, .slice A0_8 l0_8.length c0_8]] w fun e w' => e = .returned (.tuple #[.string r1, .int .i64 r2]) ∧ Below w.heap.size w w' := by
 have hu25 := Try.underlying25
 have hu50 := Try.underlying50
 have hu48 := Try.underlying48
 have HR7 := Aside0.mk hr0_7
 have HC7 := Aside0.mk hc0_7
 have HR8 := Aside0.mk hr0_8
 have HC8 := Aside0.mk hc0_8
 clear hr0_7 hc0_7 hr0_8 hc0_8
 have H : ((record_Check.f a0_0 a0_1 a0_2 a0_3 a0_4 a0_5 a0_6 l0_7 l0_8).bind fun t => if t = 0 then (if l0_7.length ≤ 1000000 ∧ l0_8.length ≤ 1000000 then pack_Encode.f k ([a0_0, a0_1, a0_2, a0_3, oneI a0_6, (l0_7.length : Int)] ++ flagsOf l0_8) ([a0_4, a0_5] ++ l0_7 ++ pairsOf l0_8) else none) else some ((⟨#[]⟩ : ByteArray), t)) = some (r1, r2) := h
 clear h
 replace H := Option.bind_eq_some_iff.mp H
 obtain ⟨t, A20, H⟩ := H
 replace H : (if t = 0 then (if l0_7.length ≤ 1000000 ∧ l0_8.length ≤ 1000000 then pack_Encode.f k ([a0_0, a0_1, a0_2, a0_3, oneI a0_6, (l0_7.length : Int)] ++ flagsOf l0_8) ([a0_4, a0_5] ++ l0_7 ++ pairsOf l0_8) else none) else some ((⟨#[]⟩ : ByteArray), t)) = some (r1, r2) := H
 have A2 := Aside0.mk A20
 clear A20
 by_cases c3 : t = 0
 rotate_left
 ·rw [if_neg c3] at H
  have c3b0 : (t == 0) = false := beq_eq_false_iff_ne.mpr c3
  have c3b1 : (t != 0) = true := bne_iff_ne.mpr c3
  simp only [Option.some.injEq, Prod.mk.injEq] at H
  obtain ⟨rfl, rfl⟩ := H
  go_enter Try.func9, Try.ntmps9
  go_wp2_with (first | ((with_reducible refine gate_dst (N := 1) rfl ?_); refine box_event ?hg (N := 1) ?hd (cs := #[.int .i64 a0_0, .int .i64 a0_1, .int .i64 a0_2, .int .i64 a0_3, .string a0_4, .string a0_5, .bool a0_6, .slice A0_7 l0_7.length c0_7, .slice A0_8 l0_8.length c0_8]) (t := 25) ?hr ?_; (case hd => rfl); (case hg => rfl); (case hr => first | (go_simp; done) | (go_simp; rfl)); intro gl hgl w1 hbox hb; have HB := Aside0.mk hb; have BL := Aside0.mk hbox; clear hgl hb hbox; have hcz_0 : w1.cell? ⟨gl, 0, none⟩ = some (.int .i64 a0_0) := (blk_cell BL.out 0).trans rfl; have hcz_1 : w1.cell? ⟨gl, 1, none⟩ = some (.int .i64 a0_1) := (blk_cell BL.out 1).trans rfl; have hcz_2 : w1.cell? ⟨gl, 2, none⟩ = some (.int .i64 a0_2) := (blk_cell BL.out 2).trans rfl; have hcz_3 : w1.cell? ⟨gl, 3, none⟩ = some (.int .i64 a0_3) := (blk_cell BL.out 3).trans rfl; have hcz_4 : w1.cell? ⟨gl, 4, none⟩ = some (.string a0_4) := (blk_cell BL.out 4).trans rfl; have hcz_5 : w1.cell? ⟨gl, 5, none⟩ = some (.string a0_5) := (blk_cell BL.out 5).trans rfl; have hcz_6 : w1.cell? ⟨gl, 6, none⟩ = some (.bool a0_6) := (blk_cell BL.out 6).trans rfl; have hcz_7 : w1.cell? ⟨gl, 7, none⟩ = some (.slice A0_7 l0_7.length c0_7) := (blk_cell BL.out 7).trans rfl; have hcz_8 : w1.cell? ⟨gl, 8, none⟩ = some (.slice A0_8 l0_8.length c0_8) := (blk_cell BL.out 8).trans rfl) | (go_at_call 11; refine (record_Check.calls a0_0 a0_1 a0_2 a0_3 a0_4 a0_5 a0_6 _ _ l0_7 _ _ l0_8 _ _ (Kd.C_below HR7.out HB.out) HC7.out (Kd.C_below HR8.out HB.out) HC8.out A2.out).mono ?_; rintro e w2 ⟨rfl, hb⟩; have HB2 := Aside0.mk (below_step HB.out hb); have BL2 := Aside0.mk (blk_below BL.out hb); clear hb))
  go_ret2
  exact ⟨rfl, HB2.out⟩
 rw [if_pos c3] at H
 subst c3
 by_cases hl : l0_7.length ≤ 1000000 ∧ l0_8.length ≤ 1000000
 ·rw [if_pos hl] at H
  obtain ⟨hl7, hl8⟩ := hl
  have HPK := Aside0.mk H
  clear H
  go_enter Try.func9, Try.ntmps9
  go_wp2_with (first | ((with_reducible refine gate_dst (N := 1) rfl ?_); refine box_event ?hg (N := 1) ?hd (cs := #[.int .i64 a0_0, .int .i64 a0_1, .int .i64 a0_2, .int .i64 a0_3, .string a0_4, .string a0_5, .bool a0_6, .slice A0_7 l0_7.length c0_7, .slice A0_8 l0_8.length c0_8]) (t := 25) ?hr ?_; (case hd => rfl); (case hg => rfl); (case hr => first | (go_simp; done) | (go_simp; rfl)); intro gl hgl w1 hbox hb; have HB := Aside0.mk hb; have BL := Aside0.mk hbox; clear hgl hb hbox; have hcz_0 : w1.cell? ⟨gl, 0, none⟩ = some (.int .i64 a0_0) := (blk_cell BL.out 0).trans rfl; have hcz_1 : w1.cell? ⟨gl, 1, none⟩ = some (.int .i64 a0_1) := (blk_cell BL.out 1).trans rfl; have hcz_2 : w1.cell? ⟨gl, 2, none⟩ = some (.int .i64 a0_2) := (blk_cell BL.out 2).trans rfl; have hcz_3 : w1.cell? ⟨gl, 3, none⟩ = some (.int .i64 a0_3) := (blk_cell BL.out 3).trans rfl; have hcz_4 : w1.cell? ⟨gl, 4, none⟩ = some (.string a0_4) := (blk_cell BL.out 4).trans rfl; have hcz_5 : w1.cell? ⟨gl, 5, none⟩ = some (.string a0_5) := (blk_cell BL.out 5).trans rfl; have hcz_6 : w1.cell? ⟨gl, 6, none⟩ = some (.bool a0_6) := (blk_cell BL.out 6).trans rfl; have hcz_7 : w1.cell? ⟨gl, 7, none⟩ = some (.slice A0_7 l0_7.length c0_7) := (blk_cell BL.out 7).trans rfl; have hcz_8 : w1.cell? ⟨gl, 8, none⟩ = some (.slice A0_8 l0_8.length c0_8) := (blk_cell BL.out 8).trans rfl) | (go_at_call 11; refine (record_Check.calls a0_0 a0_1 a0_2 a0_3 a0_4 a0_5 a0_6 _ _ l0_7 _ _ l0_8 _ _ (Kd.C_below HR7.out HB.out) HC7.out (Kd.C_below HR8.out HB.out) HC8.out A2.out).mono ?_; rintro e w2 ⟨rfl, hb⟩; have HB2 := Aside0.mk (below_step HB.out hb); have BL2 := Aside0.mk (blk_below BL.out hb); clear hb))
  clear hcz_0 hcz_1 hcz_2 hcz_3 hcz_4 hcz_5 hcz_6 hcz_7 hcz_8 HB BL
  have HB := Aside0.mk (below_drew HB2.out)
  have HL := Aside0.mk (blk_drew BL2.out)
  go_cut [5] from 8 (fun v5 wc => ∃ (gp : Nat) (vN vT : Value), v5 = .pointer (some ⟨gp, 0, none⟩) ∧ Aside0 (PE w wc gl #[.int .i64 a0_0, .int .i64 a0_1, .int .i64 a0_2, .int .i64 a0_3, .string a0_4, .string a0_5, .bool a0_6, .slice A0_7 l0_7.length c0_7, .slice A0_8 l0_8.length c0_8] gp [a0_0, a0_1, a0_2, a0_3, (oneI a0_6), (l0_7.length : Int)] ([a0_4, a0_5] ++ l0_7) vN vT))
  case first =>
   refine wp_region_noPanic ?_
   refine rt_begin (S := (fun W => W.heap[gl]? = some (Obj.cells #[.int .i64 a0_0, .int .i64 a0_1, .int .i64 a0_2, .int .i64 a0_3, .string a0_4, .string a0_5, .bool a0_6, .slice A0_7 l0_7.length c0_7, .slice A0_8 l0_8.length c0_8] 25 (0, 0)))) (s := 25) (by kernel_rfl) ?_
   refine AnyT.taken (i := 0) (v := ?v1) rfl (by kernel_rfl) (by kernel_rfl) (by kernel_rfl) (by kernel_rfl) (fun _ _ _ h => h) (Or.inl ⟨by rfl, ?y1⟩) ?s1 ?_
   case y1 =>
    intro wSW hSW
    (obtain ⟨k0, k1, k2, k3, k4, k5, k6, k7⟩ := keep8 hSW; go_simp)
    all_goals with_reducible rfl
   case s1 => exact HL.out
   try simp only [Act.put, s1_, s2_, s3_]
   refine AnyT.taken (i := 1) (v := ?v2) rfl (by kernel_rfl) (by kernel_rfl) (by kernel_rfl) (by kernel_rfl) (fun _ _ _ h => h) (Or.inl ⟨by rfl, ?y2⟩) ?s2 ?_
   case y2 =>
    intro wSW hSW
    (obtain ⟨k0, k1, k2, k3, k4, k5, k6, k7⟩ := keep8 hSW; go_simp)
    all_goals with_reducible rfl
   case s2 => exact HL.out
   try simp only [Act.put, s1_, s2_, s3_]
   refine AnyT.taken (i := 2) (v := ?v3) rfl (by kernel_rfl) (by kernel_rfl) (by kernel_rfl) (by kernel_rfl) (fun _ _ _ h => h) (Or.inl ⟨by rfl, ?y3⟩) ?s3 ?_
   case y3 =>
    intro wSW hSW
    (obtain ⟨k0, k1, k2, k3, k4, k5, k6, k7⟩ := keep8 hSW; go_simp)
    all_goals with_reducible rfl
   case s3 => exact HL.out
   try simp only [Act.put, s1_, s2_, s3_]
   refine AnyT.taken (i := 3) (v := ?v4) rfl (by kernel_rfl) (by kernel_rfl) (by kernel_rfl) (by kernel_rfl) (fun _ _ _ h => h) (Or.inl ⟨by rfl, ?y4⟩) ?s4 ?_
   case y4 =>
    intro wSW hSW
    (obtain ⟨k0, k1, k2, k3, k4, k5, k6, k7⟩ := keep8 hSW; go_simp)
    all_goals with_reducible rfl
   case s4 => exact HL.out
   try simp only [Act.put, s1_, s2_, s3_]
   refine AnyT.taken (i := 4) (v := ?v5) rfl (by kernel_rfl) (by kernel_rfl) (by kernel_rfl) (by kernel_rfl) (fun _ _ _ h => h) (Or.inl ⟨by rfl, ?y5⟩) ?s5 ?_
   case y5 =>
    intro wSW hSW
    (obtain ⟨k0, k1, k2, k3, k4, k5, k6, k7⟩ := keep8 hSW; go_simp)
    all_goals with_reducible rfl
   case s5 => exact HL.out
   try simp only [Act.put, s1_, s2_, s3_]
   refine AnyT.taken (i := 5) (v := ?v6) rfl (by kernel_rfl) (by kernel_rfl) (by kernel_rfl) (by kernel_rfl) (fun _ _ _ h => h) (Or.inl ⟨by rfl, ?y6⟩) ?s6 ?_
   case y6 =>
    intro wSW hSW
    (obtain ⟨k0, k1, k2, k3, k4, k5, k6, k7⟩ := keep8 hSW; go_simp)
    all_goals with_reducible rfl
   case s6 => exact HL.out
   try simp only [Act.put, s1_, s2_, s3_]
   refine AnyT.taken (i := 6) (v := ?v7) rfl (by kernel_rfl) (by kernel_rfl) (by kernel_rfl) (by kernel_rfl) (fun _ _ _ h => h) (Or.inl ⟨by rfl, ?y7⟩) ?s7 ?_
   case y7 =>
    intro wSW hSW
    (obtain ⟨k0, k1, k2, k3, k4, k5, k6, k7⟩ := keep8 hSW; go_simp)
    all_goals with_reducible rfl
   case s7 => exact HL.out
   try simp only [Act.put, s1_, s2_, s3_]
   refine AnyT.taken (i := 7) (v := ?v8) rfl (by kernel_rfl) (by kernel_rfl) (by kernel_rfl) (by kernel_rfl) (fun _ _ _ h => h) (Or.inl ⟨by rfl, ?y8⟩) ?s8 ?_
   case y8 =>
    intro wSW hSW
    (obtain ⟨k0, k1, k2, k3, k4, k5, k6, k7⟩ := keep8 hSW; go_simp)
    all_goals with_reducible rfl
   case s8 => exact HL.out
   try simp only [Act.put, s1_, s2_, s3_]
   refine AnyT.taken (i := 8) (v := ?v9) rfl (by kernel_rfl) (by kernel_rfl) (by kernel_rfl) (by kernel_rfl) (fun _ _ _ h => h) (Or.inl ⟨by rfl, ?y9⟩) ?s9 ?_
   case y9 =>
    intro wSW hSW
    (obtain ⟨k0, k1, k2, k3, k4, k5, k6, k7⟩ := keep8 hSW; go_simp)
    all_goals with_reducible rfl
   case s9 => exact HL.out
   try simp only [Act.put, s1_, s2_, s3_]
   refine AnyT.taken (i := 9) (v := ?v10) rfl (by kernel_rfl) (by kernel_rfl) (by kernel_rfl) (by kernel_rfl) (fun _ _ _ h => h) (Or.inl ⟨by rfl, ?y10⟩) ?s10 ?_
   case y10 =>
    intro wSW hSW
    (obtain ⟨k0, k1, k2, k3, k4, k5, k6, k7⟩ := keep8 hSW; go_simp)
    all_goals with_reducible rfl
   case s10 => exact HL.out
   try simp only [Act.put, s1_, s2_, s3_]
   refine AnyT.taken (i := 11) (v := ?v11) rfl (by kernel_rfl) (by kernel_rfl) (by kernel_rfl) (by kernel_rfl) (fun _ _ _ h => h) (Or.inl ⟨by rfl, ?y11⟩) ?s11 ?_
   case y11 =>
    intro wSW hSW
    (obtain ⟨k0, k1, k2, k3, k4, k5, k6, k7⟩ := keep8 hSW; go_simp)
    all_goals with_reducible rfl
   case s11 => exact HL.out
   try simp only [Act.put, s1_, s2_, s3_]
   refine AnyT.taken (i := 12) (v := ?v12) rfl (by kernel_rfl) (by kernel_rfl) (by kernel_rfl) (by kernel_rfl) (fun _ _ _ h => h) (Or.inl ⟨by rfl, ?y12⟩) ?s12 ?_
   case y12 =>
    intro wSW hSW
    (obtain ⟨k0, k1, k2, k3, k4, k5, k6, k7⟩ := keep8 hSW; go_simp)
    all_goals with_reducible rfl
   case s12 => exact HL.out
   try simp only [Act.put, s1_, s2_, s3_]
   refine AnyT.taken (i := 13) (v := ?v13) rfl (by kernel_rfl) (by kernel_rfl) (by kernel_rfl) (by kernel_rfl) (fun _ _ _ h => h) (Or.inl ⟨by rfl, ?y13⟩) ?s13 ?_
   case y13 =>
    intro wSW hSW
    (obtain ⟨k0, k1, k2, k3, k4, k5, k6, k7⟩ := keep8 hSW; go_simp)
    all_goals with_reducible rfl
   case s13 => exact HL.out
   try simp only [Act.put, s1_, s2_, s3_]
   refine AnyT.taken (i := 15) (v := ?v14) rfl (by kernel_rfl) (by kernel_rfl) (by kernel_rfl) (by kernel_rfl) (fun _ _ _ h => h) (Or.inl ⟨by rfl, ?y14⟩) ?s14 ?_
   case y14 =>
    intro wSW hSW
    (obtain ⟨k0, k1, k2, k3, k4, k5, k6, k7⟩ := keep8 hSW; go_simp)
    all_goals with_reducible rfl
   case s14 => exact HL.out
   try simp only [Act.put, s1_, s2_, s3_]
   refine AnyT.taken (i := 16) (v := ?v15) rfl (by kernel_rfl) (by kernel_rfl) (by kernel_rfl) (by kernel_rfl) (fun _ _ _ h => h) (Or.inl ⟨by rfl, ?y15⟩) ?s15 ?_
   case y15 =>
    intro wSW hSW
    (obtain ⟨k0, k1, k2, k3, k4, k5, k6, k7⟩ := keep8 hSW; go_simp)
    all_goals with_reducible rfl
   case s15 => exact HL.out
   try simp only [Act.put, s1_, s2_, s3_]
   refine AnyT.taken (i := 17) (v := ?v16) rfl (by kernel_rfl) (by kernel_rfl) (by kernel_rfl) (by kernel_rfl) (fun _ _ _ h => h) (Or.inl ⟨by rfl, ?y16⟩) ?s16 ?_
   case y16 =>
    intro wSW hSW
    (obtain ⟨k0, k1, k2, k3, k4, k5, k6, k7⟩ := keep8 hSW; go_simp)
    all_goals with_reducible rfl
   case s16 => exact HL.out
   try simp only [Act.put, s1_, s2_, s3_]
   refine AnyT.taken (i := 18) (v := ?v17) rfl (by kernel_rfl) (by kernel_rfl) (by kernel_rfl) (by kernel_rfl) (fun _ _ _ h => h) (Or.inl ⟨by rfl, ?y17⟩) ?s17 ?_
   case y17 =>
    intro wSW hSW
    (obtain ⟨k0, k1, k2, k3, k4, k5, k6, k7⟩ := keep8 hSW; go_simp)
    all_goals with_reducible rfl
   case s17 => exact HL.out
   try simp only [Act.put, s1_, s2_, s3_]
   refine AnyT.taken (i := 20) (v := ?v18) rfl (by kernel_rfl) (by kernel_rfl) (by kernel_rfl) (by kernel_rfl) (fun _ _ _ h => h) (Or.inl ⟨by rfl, ?y18⟩) ?s18 ?_
   case y18 =>
    intro wSW hSW
    (obtain ⟨k0, k1, k2, k3, k4, k5, k6, k7⟩ := keep8 hSW; go_simp)
    all_goals with_reducible rfl
   case s18 => exact HL.out
   try simp only [Act.put, s1_, s2_, s3_]
   refine AnyT.taken (i := 21) (v := ?v19) rfl (by kernel_rfl) (by kernel_rfl) (by kernel_rfl) (by kernel_rfl) (fun _ _ _ h => h) (Or.inl ⟨by rfl, ?y19⟩) ?s19 ?_
   case y19 =>
    intro wSW hSW
    (obtain ⟨k0, k1, k2, k3, k4, k5, k6, k7⟩ := keep8 hSW; go_simp)
    all_goals with_reducible rfl
   case s19 => exact HL.out
   try simp only [Act.put, s1_, s2_, s3_]
   refine AnyT.ready (rs := [10, 19, 24]) (by kernel_rfl) (by simp) (AllT.step rfl (fun K hK => ?b2010) (AllT.step rfl (fun K hK => ?b2019) (AllT.step rfl (fun K hK => ?b2024) AllT.nil)))
   case b2010 =>
    (refine goes_ Try.func20 (by kernel_rfl) rfl #[.bool a0_6] (by rfl) rfl rfl (by (try simp only [List.map_toArray, List.map_cons, List.map_nil]); first | done | rfl) ?_; refine (one_calls a0_6 _).mono ?_; rintro e w9 ⟨rfl, hb⟩; refine ⟨_, rfl, ?_⟩; (try replace FN := Aside0.mk (Kd.R_below FN.out hb)); (try replace FT := Aside0.mk (Kd.R_below FT.out hb)); (try replace FZ := Aside0.mk (blk_below FZ.out hb)); replace HL := Aside0.mk (blk_below HL.out hb); replace HB := Aside0.mk (below_step HB.out hb); clear hb)
    refine hK.out _ _ ?_ ?_
    ·intro _; exact HL.out
    clear hK K
    try simp only [Act.put, s1_, s2_, s3_]
    refine AnyT.ready (rs := [14, 19, 24]) (by kernel_rfl) (by simp) (AllT.step rfl (fun K hK => ?b2214) (AllT.step rfl (fun K hK => ?b2219) (AllT.step rfl (fun K hK => ?b2224) AllT.nil)))
    case b2214 =>
     (refine Kd.R_lit_step (Kd.int .i64) (w0 := w) w.heap.size 3 (by rfl) (N := 27) (by rfl) (xs := [a0_0, a0_1, a0_2, a0_3, (oneI a0_6), (l0_7.length : Int)]) (inner := [.int .i64 a0_0, .int .i64 a0_1, .int .i64 a0_2, .int .i64 a0_3, .int .i64 (oneI a0_6), .int .i64 (l0_7.length : Int)]) (ok := fun _ => True) (okp := fun _ => True) ?hr (reps_ints _ _ _ [a0_0, a0_1, a0_2, a0_3, (oneI a0_6), (l0_7.length : Int)]) (fun _ h => h) trivial HB.out HB.out.size (by simp) ?_; (case hr => first | (go_simp; done) | (go_simp; rfl)); intro vx w9 ho hb hg hat; (try replace FN := Aside0.mk (Kd.R_grown FN.out hg (fun _ _ => by simp))); (try replace FT := Aside0.mk (Kd.R_grown FT.out hg (fun _ _ => by simp))); (try replace FZ := Aside0.mk (blk_grown FZ.out hg (by simp))); replace HL := Aside0.mk (blk_grown HL.out hg (by simp)); replace HB := Aside0.mk hb; obtain ⟨A27, c27, e9⟩ := Kd.R_slice ho; subst e9; have FN := Aside0.mk ho; clear ho hb hg hat)
     refine hK.out _ _ ?_ ?_
     ·intro _; exact HL.out
     clear hK K
     try simp only [Act.put, s1_, s2_, s3_]
     refine AnyT.ready (rs := [19, 24]) (by kernel_rfl) (by simp) (AllT.step rfl (fun K hK => ?b2419) (AllT.step rfl (fun K hK => ?b2424) AllT.nil))
     case b2419 =>
      (refine Kd.R_lit_step Kd.string (w0 := w) w.heap.size 9 (by rfl) (N := 32) (by rfl) (xs := [a0_4, a0_5]) (inner := [.string a0_4, .string a0_5]) (ok := fun _ => True) (okp := fun _ => True) ?hr (reps_texts _ _ _ [a0_4, a0_5]) (fun _ h => h) trivial HB.out HB.out.size (by simp) ?_; (case hr => first | (go_simp; done) | (go_simp; rfl)); intro vx w9 ho hb hg hat; (try replace FN := Aside0.mk (Kd.R_grown FN.out hg (fun _ _ => by simp))); (try replace FT := Aside0.mk (Kd.R_grown FT.out hg (fun _ _ => by simp))); (try replace FZ := Aside0.mk (blk_grown FZ.out hg (by simp))); replace HL := Aside0.mk (blk_grown HL.out hg (by simp)); replace HB := Aside0.mk hb; obtain ⟨A32, c32, e9⟩ := Kd.R_slice ho; subst e9; have FT := Aside0.mk ho; clear ho hb hg hat)
      refine hK.out _ _ ?_ ?_
      ·intro _; exact HL.out
      clear hK K
      try simp only [Act.put, s1_, s2_, s3_]
      refine AnyT.ready (rs := [22, 24]) (by kernel_rfl) (by simp) (AllT.step rfl (fun K hK => ?b2622) (AllT.step rfl (fun K hK => ?b2624) AllT.nil))
      case b2622 =>
       (refine Kd.R_append_rows_step Kd.string (w0 := w) w.heap.size (by rfl) (.tmp 32) (.tmp 34) 22 9 (.string ⟨#[]⟩) 16 (by rfl) Try.underlying22 info9 rfl (by decide) (by omega) (.slice A32 2 c32) [a0_4, a0_5] l0_7 _ _ _ (fun _ => True) (fun _ => False) (by rfl) (by rfl) FT.out (Kd.C_below HR7.out HB.out) (fun _ _ h => h) (fun _ h => h.elim) (fun _ _ => trivial) HB.out HB.out.size (by simp only [List.length_cons, List.length_nil]; omega) ?_; intro vx w9 ho hb hg hat; (try replace FN := Aside0.mk (Kd.R_over FN.out FT.out (by decide) hg)); (try replace FZ := Aside0.mk (blk_grown FZ.out hg (Kd.R_ne FT.out FZ.out (by decide)))); replace HL := Aside0.mk (blk_grown HL.out hg (Kd.R_ne FT.out HL.out (by decide))); replace HB := Aside0.mk hb; obtain ⟨A35, c35, e9⟩ := Kd.R_slice ho; subst e9; replace FT := Aside0.mk ho; clear ho hb hg hat)
       refine hK.out _ _ ?_ ?_
       ·intro _; exact HL.out
       clear hK K
       try simp only [Act.put, s1_, s2_, s3_]
       refine AnyT.taken (i := 23) (v := ?v28) rfl (by kernel_rfl) (by kernel_rfl) (by kernel_rfl) (by kernel_rfl) (fun _ _ _ h => h) (Or.inl ⟨by rfl, ?y28⟩) ?s28 ?_
       case y28 =>
        intro wSW hSW
        (obtain ⟨k0, k1, k2, k3, k4, k5, k6, k7⟩ := keep8 hSW; go_simp)
        all_goals with_reducible rfl
       case s28 => exact HL.out
       try simp only [Act.put, s1_, s2_, s3_]
       refine AnyT.ready (rs := [24]) (by kernel_rfl) (by simp) (AllT.step rfl (fun K hK => ?b2924) AllT.nil)
       case b2924 =>
        (refine step_alloc (ob := .cells #[.slice none 0 0, .slice none 0 0] 48) (by rfl) ?hr ?_; (case hr => first | (go_simp; done) | (go_simp; rfl)); intro w9 gz hq hge hb; have FG : Aside0 (w.heap.size ≤ gz) := ⟨Nat.le_trans HB.out.size hge⟩; (try replace FN := Aside0.mk (Kd.R_below FN.out hb)); (try replace FT := Aside0.mk (Kd.R_below FT.out hb)); (try replace FZ := Aside0.mk (blk_below FZ.out hb)); replace HL := Aside0.mk (blk_below HL.out hb); replace HB := Aside0.mk (below_step HB.out hb); have FZ := Aside0.mk hq; clear hq hge hb)
        refine hK.out _ _ ?_ ?_
        ·intro _; exact HL.out
        clear hK K
        try simp only [Act.put, s1_, s2_, s3_]
        refine AnyT.ready (rs := [25]) (by kernel_rfl) (by simp) (AllT.step rfl (fun K hK => ?b3125) AllT.nil)
        case b3125 =>
         (have hs0 := (blk_cell FZ.out 0).trans rfl; have hs1 := (blk_cell FZ.out 1).trans rfl; have hf0 := blk_frozen FZ.out 0; have hf1 := blk_frozen FZ.out 1; go_simp)
         refine hK.out _ _ ?_ ?_
         ·exact past (by kernel_rfl)
         clear hK K
         try simp only [Act.put, s1_, s2_, s3_]
         refine AnyT.done (by kernel_rfl) ?_ _
         refine NoPanic.normal ?_
         (go_wp2; go_meet)
         (case rel => exact ⟨gz, .slice A27 6 c27, .slice A35 (l0_7.length + 2) c35, rfl, ⟨PE.of (vN' := .slice none 0 0) (vT' := .slice none 0 0) HL.out HB.out FN.out FT.out FZ.out FG.out⟩⟩)
      case b2624 =>
       (refine step_alloc (ob := .cells #[.slice none 0 0, .slice none 0 0] 48) (by rfl) ?hr ?_; (case hr => first | (go_simp; done) | (go_simp; rfl)); intro w9 gz hq hge hb; have FG : Aside0 (w.heap.size ≤ gz) := ⟨Nat.le_trans HB.out.size hge⟩; (try replace FN := Aside0.mk (Kd.R_below FN.out hb)); (try replace FT := Aside0.mk (Kd.R_below FT.out hb)); (try replace FZ := Aside0.mk (blk_below FZ.out hb)); replace HL := Aside0.mk (blk_below HL.out hb); replace HB := Aside0.mk (below_step HB.out hb); have FZ := Aside0.mk hq; clear hq hge hb)
       refine hK.out _ _ ?_ ?_
       ·intro _; exact HL.out
       clear hK K
       try simp only [Act.put, s1_, s2_, s3_]
       refine AnyT.ready (rs := [22]) (by kernel_rfl) (by simp) (AllT.step rfl (fun K hK => ?b3522) AllT.nil)
       case b3522 =>
        (refine Kd.R_append_rows_step Kd.string (w0 := w) w.heap.size (by rfl) (.tmp 32) (.tmp 34) 22 9 (.string ⟨#[]⟩) 16 (by rfl) Try.underlying22 info9 rfl (by decide) (by omega) (.slice A32 2 c32) [a0_4, a0_5] l0_7 _ _ _ (fun _ => True) (fun _ => False) (by rfl) (by rfl) FT.out (Kd.C_below HR7.out HB.out) (fun _ _ h => h) (fun _ h => h.elim) (fun _ _ => trivial) HB.out HB.out.size (by simp only [List.length_cons, List.length_nil]; omega) ?_; intro vx w9 ho hb hg hat; (try replace FN := Aside0.mk (Kd.R_over FN.out FT.out (by decide) hg)); (try replace FZ := Aside0.mk (blk_grown FZ.out hg (Kd.R_ne FT.out FZ.out (by decide)))); replace HL := Aside0.mk (blk_grown HL.out hg (Kd.R_ne FT.out HL.out (by decide))); replace HB := Aside0.mk hb; obtain ⟨A35, c35, e9⟩ := Kd.R_slice ho; subst e9; replace FT := Aside0.mk ho; clear ho hb hg hat)
        refine hK.out _ _ ?_ ?_
        ·intro _; exact HL.out
        clear hK K
        try simp only [Act.put, s1_, s2_, s3_]
        refine AnyT.taken (i := 23) (v := ?v37) rfl (by kernel_rfl) (by kernel_rfl) (by kernel_rfl) (by kernel_rfl) (fun _ _ _ h => h) (Or.inl ⟨by rfl, ?y37⟩) ?s37 ?_
        case y37 =>
         intro wSW hSW
         (obtain ⟨k0, k1, k2, k3, k4, k5, k6, k7⟩ := keep8 hSW; go_simp)
         all_goals with_reducible rfl
        case s37 => exact HL.out
        try simp only [Act.put, s1_, s2_, s3_]
        refine AnyT.ready (rs := [25]) (by kernel_rfl) (by simp) (AllT.step rfl (fun K hK => ?b3825) AllT.nil)
        case b3825 =>
         (have hs0 := (blk_cell FZ.out 0).trans rfl; have hs1 := (blk_cell FZ.out 1).trans rfl; have hf0 := blk_frozen FZ.out 0; have hf1 := blk_frozen FZ.out 1; go_simp)
         refine hK.out _ _ ?_ ?_
         ·exact past (by kernel_rfl)
         clear hK K
         try simp only [Act.put, s1_, s2_, s3_]
         refine AnyT.done (by kernel_rfl) ?_ _
         refine NoPanic.normal ?_
         (go_wp2; go_meet)
         (case rel => exact ⟨gz, .slice A27 6 c27, .slice A35 (l0_7.length + 2) c35, rfl, ⟨PE.of (vN' := .slice none 0 0) (vT' := .slice none 0 0) HL.out HB.out FN.out FT.out FZ.out FG.out⟩⟩)
     case b2424 =>
      (refine step_alloc (ob := .cells #[.slice none 0 0, .slice none 0 0] 48) (by rfl) ?hr ?_; (case hr => first | (go_simp; done) | (go_simp; rfl)); intro w9 gz hq hge hb; have FG : Aside0 (w.heap.size ≤ gz) := ⟨Nat.le_trans HB.out.size hge⟩; (try replace FN := Aside0.mk (Kd.R_below FN.out hb)); (try replace FT := Aside0.mk (Kd.R_below FT.out hb)); (try replace FZ := Aside0.mk (blk_below FZ.out hb)); replace HL := Aside0.mk (blk_below HL.out hb); replace HB := Aside0.mk (below_step HB.out hb); have FZ := Aside0.mk hq; clear hq hge hb)
      refine hK.out _ _ ?_ ?_
      ·intro _; exact HL.out
      clear hK K
      try simp only [Act.put, s1_, s2_, s3_]
      refine AnyT.ready (rs := [19]) (by kernel_rfl) (by simp) (AllT.step rfl (fun K hK => ?b4219) AllT.nil)
      case b4219 =>
       (refine Kd.R_lit_step Kd.string (w0 := w) w.heap.size 9 (by rfl) (N := 32) (by rfl) (xs := [a0_4, a0_5]) (inner := [.string a0_4, .string a0_5]) (ok := fun _ => True) (okp := fun _ => True) ?hr (reps_texts _ _ _ [a0_4, a0_5]) (fun _ h => h) trivial HB.out HB.out.size (by simp) ?_; (case hr => first | (go_simp; done) | (go_simp; rfl)); intro vx w9 ho hb hg hat; (try replace FN := Aside0.mk (Kd.R_grown FN.out hg (fun _ _ => by simp))); (try replace FT := Aside0.mk (Kd.R_grown FT.out hg (fun _ _ => by simp))); (try replace FZ := Aside0.mk (blk_grown FZ.out hg (by simp))); replace HL := Aside0.mk (blk_grown HL.out hg (by simp)); replace HB := Aside0.mk hb; obtain ⟨A32, c32, e9⟩ := Kd.R_slice ho; subst e9; have FT := Aside0.mk ho; clear ho hb hg hat)
       refine hK.out _ _ ?_ ?_
       ·intro _; exact HL.out
       clear hK K
       try simp only [Act.put, s1_, s2_, s3_]
       refine AnyT.ready (rs := [22]) (by kernel_rfl) (by simp) (AllT.step rfl (fun K hK => ?b4422) AllT.nil)
       case b4422 =>
        (refine Kd.R_append_rows_step Kd.string (w0 := w) w.heap.size (by rfl) (.tmp 32) (.tmp 34) 22 9 (.string ⟨#[]⟩) 16 (by rfl) Try.underlying22 info9 rfl (by decide) (by omega) (.slice A32 2 c32) [a0_4, a0_5] l0_7 _ _ _ (fun _ => True) (fun _ => False) (by rfl) (by rfl) FT.out (Kd.C_below HR7.out HB.out) (fun _ _ h => h) (fun _ h => h.elim) (fun _ _ => trivial) HB.out HB.out.size (by simp only [List.length_cons, List.length_nil]; omega) ?_; intro vx w9 ho hb hg hat; (try replace FN := Aside0.mk (Kd.R_over FN.out FT.out (by decide) hg)); (try replace FZ := Aside0.mk (blk_grown FZ.out hg (Kd.R_ne FT.out FZ.out (by decide)))); replace HL := Aside0.mk (blk_grown HL.out hg (Kd.R_ne FT.out HL.out (by decide))); replace HB := Aside0.mk hb; obtain ⟨A35, c35, e9⟩ := Kd.R_slice ho; subst e9; replace FT := Aside0.mk ho; clear ho hb hg hat)
        refine hK.out _ _ ?_ ?_
        ·intro _; exact HL.out
        clear hK K
        try simp only [Act.put, s1_, s2_, s3_]
        refine AnyT.taken (i := 23) (v := ?v46) rfl (by kernel_rfl) (by kernel_rfl) (by kernel_rfl) (by kernel_rfl) (fun _ _ _ h => h) (Or.inl ⟨by rfl, ?y46⟩) ?s46 ?_
        case y46 =>
         intro wSW hSW
         (obtain ⟨k0, k1, k2, k3, k4, k5, k6, k7⟩ := keep8 hSW; go_simp)
         all_goals with_reducible rfl
        case s46 => exact HL.out
        try simp only [Act.put, s1_, s2_, s3_]
        refine AnyT.ready (rs := [25]) (by kernel_rfl) (by simp) (AllT.step rfl (fun K hK => ?b4725) AllT.nil)
        case b4725 =>
         (have hs0 := (blk_cell FZ.out 0).trans rfl; have hs1 := (blk_cell FZ.out 1).trans rfl; have hf0 := blk_frozen FZ.out 0; have hf1 := blk_frozen FZ.out 1; go_simp)
         refine hK.out _ _ ?_ ?_
         ·exact past (by kernel_rfl)
         clear hK K
         try simp only [Act.put, s1_, s2_, s3_]
         refine AnyT.done (by kernel_rfl) ?_ _
         refine NoPanic.normal ?_
         (go_wp2; go_meet)
         (case rel => exact ⟨gz, .slice A27 6 c27, .slice A35 (l0_7.length + 2) c35, rfl, ⟨PE.of (vN' := .slice none 0 0) (vT' := .slice none 0 0) HL.out HB.out FN.out FT.out FZ.out FG.out⟩⟩)
    case b2219 =>
     (refine Kd.R_lit_step Kd.string (w0 := w) w.heap.size 9 (by rfl) (N := 32) (by rfl) (xs := [a0_4, a0_5]) (inner := [.string a0_4, .string a0_5]) (ok := fun _ => True) (okp := fun _ => True) ?hr (reps_texts _ _ _ [a0_4, a0_5]) (fun _ h => h) trivial HB.out HB.out.size (by simp) ?_; (case hr => first | (go_simp; done) | (go_simp; rfl)); intro vx w9 ho hb hg hat; (try replace FN := Aside0.mk (Kd.R_grown FN.out hg (fun _ _ => by simp))); (try replace FT := Aside0.mk (Kd.R_grown FT.out hg (fun _ _ => by simp))); (try replace FZ := Aside0.mk (blk_grown FZ.out hg (by simp))); replace HL := Aside0.mk (blk_grown HL.out hg (by simp)); replace HB := Aside0.mk hb; obtain ⟨A32, c32, e9⟩ := Kd.R_slice ho; subst e9; have FT := Aside0.mk ho; clear ho hb hg hat)
     refine hK.out _ _ ?_ ?_
     ·intro _; exact HL.out
     clear hK K
     try simp only [Act.put, s1_, s2_, s3_]
     refine AnyT.ready (rs := [14, 22, 24]) (by kernel_rfl) (by simp) (AllT.step rfl (fun K hK => ?b5114) (AllT.step rfl (fun K hK => ?b5122) (AllT.step rfl (fun K hK => ?b5124) AllT.nil)))
     case b5114 =>
      (refine Kd.R_lit_step (Kd.int .i64) (w0 := w) w.heap.size 3 (by rfl) (N := 27) (by rfl) (xs := [a0_0, a0_1, a0_2, a0_3, (oneI a0_6), (l0_7.length : Int)]) (inner := [.int .i64 a0_0, .int .i64 a0_1, .int .i64 a0_2, .int .i64 a0_3, .int .i64 (oneI a0_6), .int .i64 (l0_7.length : Int)]) (ok := fun _ => True) (okp := fun _ => True) ?hr (reps_ints _ _ _ [a0_0, a0_1, a0_2, a0_3, (oneI a0_6), (l0_7.length : Int)]) (fun _ h => h) trivial HB.out HB.out.size (by simp) ?_; (case hr => first | (go_simp; done) | (go_simp; rfl)); intro vx w9 ho hb hg hat; (try replace FN := Aside0.mk (Kd.R_grown FN.out hg (fun _ _ => by simp))); (try replace FT := Aside0.mk (Kd.R_grown FT.out hg (fun _ _ => by simp))); (try replace FZ := Aside0.mk (blk_grown FZ.out hg (by simp))); replace HL := Aside0.mk (blk_grown HL.out hg (by simp)); replace HB := Aside0.mk hb; obtain ⟨A27, c27, e9⟩ := Kd.R_slice ho; subst e9; have FN := Aside0.mk ho; clear ho hb hg hat)
      refine hK.out _ _ ?_ ?_
      ·intro _; exact HL.out
      clear hK K
      try simp only [Act.put, s1_, s2_, s3_]
      refine AnyT.ready (rs := [22, 24]) (by kernel_rfl) (by simp) (AllT.step rfl (fun K hK => ?b5322) (AllT.step rfl (fun K hK => ?b5324) AllT.nil))
      case b5322 =>
       (refine Kd.R_append_rows_step Kd.string (w0 := w) w.heap.size (by rfl) (.tmp 32) (.tmp 34) 22 9 (.string ⟨#[]⟩) 16 (by rfl) Try.underlying22 info9 rfl (by decide) (by omega) (.slice A32 2 c32) [a0_4, a0_5] l0_7 _ _ _ (fun _ => True) (fun _ => False) (by rfl) (by rfl) FT.out (Kd.C_below HR7.out HB.out) (fun _ _ h => h) (fun _ h => h.elim) (fun _ _ => trivial) HB.out HB.out.size (by simp only [List.length_cons, List.length_nil]; omega) ?_; intro vx w9 ho hb hg hat; (try replace FN := Aside0.mk (Kd.R_over FN.out FT.out (by decide) hg)); (try replace FZ := Aside0.mk (blk_grown FZ.out hg (Kd.R_ne FT.out FZ.out (by decide)))); replace HL := Aside0.mk (blk_grown HL.out hg (Kd.R_ne FT.out HL.out (by decide))); replace HB := Aside0.mk hb; obtain ⟨A35, c35, e9⟩ := Kd.R_slice ho; subst e9; replace FT := Aside0.mk ho; clear ho hb hg hat)
       refine hK.out _ _ ?_ ?_
       ·intro _; exact HL.out
       clear hK K
       try simp only [Act.put, s1_, s2_, s3_]
       refine AnyT.taken (i := 23) (v := ?v55) rfl (by kernel_rfl) (by kernel_rfl) (by kernel_rfl) (by kernel_rfl) (fun _ _ _ h => h) (Or.inl ⟨by rfl, ?y55⟩) ?s55 ?_
       case y55 =>
        intro wSW hSW
        (obtain ⟨k0, k1, k2, k3, k4, k5, k6, k7⟩ := keep8 hSW; go_simp)
        all_goals with_reducible rfl
       case s55 => exact HL.out
       try simp only [Act.put, s1_, s2_, s3_]
       refine AnyT.ready (rs := [24]) (by kernel_rfl) (by simp) (AllT.step rfl (fun K hK => ?b5624) AllT.nil)
       case b5624 =>
        (refine step_alloc (ob := .cells #[.slice none 0 0, .slice none 0 0] 48) (by rfl) ?hr ?_; (case hr => first | (go_simp; done) | (go_simp; rfl)); intro w9 gz hq hge hb; have FG : Aside0 (w.heap.size ≤ gz) := ⟨Nat.le_trans HB.out.size hge⟩; (try replace FN := Aside0.mk (Kd.R_below FN.out hb)); (try replace FT := Aside0.mk (Kd.R_below FT.out hb)); (try replace FZ := Aside0.mk (blk_below FZ.out hb)); replace HL := Aside0.mk (blk_below HL.out hb); replace HB := Aside0.mk (below_step HB.out hb); have FZ := Aside0.mk hq; clear hq hge hb)
        refine hK.out _ _ ?_ ?_
        ·intro _; exact HL.out
        clear hK K
        try simp only [Act.put, s1_, s2_, s3_]
        refine AnyT.ready (rs := [25]) (by kernel_rfl) (by simp) (AllT.step rfl (fun K hK => ?b5825) AllT.nil)
        case b5825 =>
         (have hs0 := (blk_cell FZ.out 0).trans rfl; have hs1 := (blk_cell FZ.out 1).trans rfl; have hf0 := blk_frozen FZ.out 0; have hf1 := blk_frozen FZ.out 1; go_simp)
         refine hK.out _ _ ?_ ?_
         ·exact past (by kernel_rfl)
         clear hK K
         try simp only [Act.put, s1_, s2_, s3_]
         refine AnyT.done (by kernel_rfl) ?_ _
         refine NoPanic.normal ?_
         (go_wp2; go_meet)
         (case rel => exact ⟨gz, .slice A27 6 c27, .slice A35 (l0_7.length + 2) c35, rfl, ⟨PE.of (vN' := .slice none 0 0) (vT' := .slice none 0 0) HL.out HB.out FN.out FT.out FZ.out FG.out⟩⟩)
      case b5324 =>
       (refine step_alloc (ob := .cells #[.slice none 0 0, .slice none 0 0] 48) (by rfl) ?hr ?_; (case hr => first | (go_simp; done) | (go_simp; rfl)); intro w9 gz hq hge hb; have FG : Aside0 (w.heap.size ≤ gz) := ⟨Nat.le_trans HB.out.size hge⟩; (try replace FN := Aside0.mk (Kd.R_below FN.out hb)); (try replace FT := Aside0.mk (Kd.R_below FT.out hb)); (try replace FZ := Aside0.mk (blk_below FZ.out hb)); replace HL := Aside0.mk (blk_below HL.out hb); replace HB := Aside0.mk (below_step HB.out hb); have FZ := Aside0.mk hq; clear hq hge hb)
       refine hK.out _ _ ?_ ?_
       ·intro _; exact HL.out
       clear hK K
       try simp only [Act.put, s1_, s2_, s3_]
       refine AnyT.ready (rs := [22]) (by kernel_rfl) (by simp) (AllT.step rfl (fun K hK => ?b6222) AllT.nil)
       case b6222 =>
        (refine Kd.R_append_rows_step Kd.string (w0 := w) w.heap.size (by rfl) (.tmp 32) (.tmp 34) 22 9 (.string ⟨#[]⟩) 16 (by rfl) Try.underlying22 info9 rfl (by decide) (by omega) (.slice A32 2 c32) [a0_4, a0_5] l0_7 _ _ _ (fun _ => True) (fun _ => False) (by rfl) (by rfl) FT.out (Kd.C_below HR7.out HB.out) (fun _ _ h => h) (fun _ h => h.elim) (fun _ _ => trivial) HB.out HB.out.size (by simp only [List.length_cons, List.length_nil]; omega) ?_; intro vx w9 ho hb hg hat; (try replace FN := Aside0.mk (Kd.R_over FN.out FT.out (by decide) hg)); (try replace FZ := Aside0.mk (blk_grown FZ.out hg (Kd.R_ne FT.out FZ.out (by decide)))); replace HL := Aside0.mk (blk_grown HL.out hg (Kd.R_ne FT.out HL.out (by decide))); replace HB := Aside0.mk hb; obtain ⟨A35, c35, e9⟩ := Kd.R_slice ho; subst e9; replace FT := Aside0.mk ho; clear ho hb hg hat)
        refine hK.out _ _ ?_ ?_
        ·intro _; exact HL.out
        clear hK K
        try simp only [Act.put, s1_, s2_, s3_]
        refine AnyT.taken (i := 23) (v := ?v64) rfl (by kernel_rfl) (by kernel_rfl) (by kernel_rfl) (by kernel_rfl) (fun _ _ _ h => h) (Or.inl ⟨by rfl, ?y64⟩) ?s64 ?_
        case y64 =>
         intro wSW hSW
         (obtain ⟨k0, k1, k2, k3, k4, k5, k6, k7⟩ := keep8 hSW; go_simp)
         all_goals with_reducible rfl
        case s64 => exact HL.out
        try simp only [Act.put, s1_, s2_, s3_]
        refine AnyT.ready (rs := [25]) (by kernel_rfl) (by simp) (AllT.step rfl (fun K hK => ?b6525) AllT.nil)
        case b6525 =>
         (have hs0 := (blk_cell FZ.out 0).trans rfl; have hs1 := (blk_cell FZ.out 1).trans rfl; have hf0 := blk_frozen FZ.out 0; have hf1 := blk_frozen FZ.out 1; go_simp)
         refine hK.out _ _ ?_ ?_
         ·exact past (by kernel_rfl)
         clear hK K
         try simp only [Act.put, s1_, s2_, s3_]
         refine AnyT.done (by kernel_rfl) ?_ _
         refine NoPanic.normal ?_
         (go_wp2; go_meet)
         (case rel => exact ⟨gz, .slice A27 6 c27, .slice A35 (l0_7.length + 2) c35, rfl, ⟨PE.of (vN' := .slice none 0 0) (vT' := .slice none 0 0) HL.out HB.out FN.out FT.out FZ.out FG.out⟩⟩)
     case b5122 =>
      (refine Kd.R_append_rows_step Kd.string (w0 := w) w.heap.size (by rfl) (.tmp 32) (.tmp 34) 22 9 (.string ⟨#[]⟩) 16 (by rfl) Try.underlying22 info9 rfl (by decide) (by omega) (.slice A32 2 c32) [a0_4, a0_5] l0_7 _ _ _ (fun _ => True) (fun _ => False) (by rfl) (by rfl) FT.out (Kd.C_below HR7.out HB.out) (fun _ _ h => h) (fun _ h => h.elim) (fun _ _ => trivial) HB.out HB.out.size (by simp only [List.length_cons, List.length_nil]; omega) ?_; intro vx w9 ho hb hg hat; (try replace FN := Aside0.mk (Kd.R_over FN.out FT.out (by decide) hg)); (try replace FZ := Aside0.mk (blk_grown FZ.out hg (Kd.R_ne FT.out FZ.out (by decide)))); replace HL := Aside0.mk (blk_grown HL.out hg (Kd.R_ne FT.out HL.out (by decide))); replace HB := Aside0.mk hb; obtain ⟨A35, c35, e9⟩ := Kd.R_slice ho; subst e9; replace FT := Aside0.mk ho; clear ho hb hg hat)
      refine hK.out _ _ ?_ ?_
      ·intro _; exact HL.out
      clear hK K
      try simp only [Act.put, s1_, s2_, s3_]
      refine AnyT.ready (rs := [14, 24]) (by kernel_rfl) (by simp) (AllT.step rfl (fun K hK => ?b6914) (AllT.step rfl (fun K hK => ?b6924) AllT.nil))
      case b6914 =>
       (refine Kd.R_lit_step (Kd.int .i64) (w0 := w) w.heap.size 3 (by rfl) (N := 27) (by rfl) (xs := [a0_0, a0_1, a0_2, a0_3, (oneI a0_6), (l0_7.length : Int)]) (inner := [.int .i64 a0_0, .int .i64 a0_1, .int .i64 a0_2, .int .i64 a0_3, .int .i64 (oneI a0_6), .int .i64 (l0_7.length : Int)]) (ok := fun _ => True) (okp := fun _ => True) ?hr (reps_ints _ _ _ [a0_0, a0_1, a0_2, a0_3, (oneI a0_6), (l0_7.length : Int)]) (fun _ h => h) trivial HB.out HB.out.size (by simp) ?_; (case hr => first | (go_simp; done) | (go_simp; rfl)); intro vx w9 ho hb hg hat; (try replace FN := Aside0.mk (Kd.R_grown FN.out hg (fun _ _ => by simp))); (try replace FT := Aside0.mk (Kd.R_grown FT.out hg (fun _ _ => by simp))); (try replace FZ := Aside0.mk (blk_grown FZ.out hg (by simp))); replace HL := Aside0.mk (blk_grown HL.out hg (by simp)); replace HB := Aside0.mk hb; obtain ⟨A27, c27, e9⟩ := Kd.R_slice ho; subst e9; have FN := Aside0.mk ho; clear ho hb hg hat)
       refine hK.out _ _ ?_ ?_
       ·intro _; exact HL.out
       clear hK K
       try simp only [Act.put, s1_, s2_, s3_]
       refine AnyT.taken (i := 23) (v := ?v71) rfl (by kernel_rfl) (by kernel_rfl) (by kernel_rfl) (by kernel_rfl) (fun _ _ _ h => h) (Or.inl ⟨by rfl, ?y71⟩) ?s71 ?_
       case y71 =>
        intro wSW hSW
        (obtain ⟨k0, k1, k2, k3, k4, k5, k6, k7⟩ := keep8 hSW; go_simp)
        all_goals with_reducible rfl
       case s71 => exact HL.out
       try simp only [Act.put, s1_, s2_, s3_]
       refine AnyT.ready (rs := [24]) (by kernel_rfl) (by simp) (AllT.step rfl (fun K hK => ?b7224) AllT.nil)
       case b7224 =>
        (refine step_alloc (ob := .cells #[.slice none 0 0, .slice none 0 0] 48) (by rfl) ?hr ?_; (case hr => first | (go_simp; done) | (go_simp; rfl)); intro w9 gz hq hge hb; have FG : Aside0 (w.heap.size ≤ gz) := ⟨Nat.le_trans HB.out.size hge⟩; (try replace FN := Aside0.mk (Kd.R_below FN.out hb)); (try replace FT := Aside0.mk (Kd.R_below FT.out hb)); (try replace FZ := Aside0.mk (blk_below FZ.out hb)); replace HL := Aside0.mk (blk_below HL.out hb); replace HB := Aside0.mk (below_step HB.out hb); have FZ := Aside0.mk hq; clear hq hge hb)
        refine hK.out _ _ ?_ ?_
        ·intro _; exact HL.out
        clear hK K
        try simp only [Act.put, s1_, s2_, s3_]
        refine AnyT.ready (rs := [25]) (by kernel_rfl) (by simp) (AllT.step rfl (fun K hK => ?b7425) AllT.nil)
        case b7425 =>
         (have hs0 := (blk_cell FZ.out 0).trans rfl; have hs1 := (blk_cell FZ.out 1).trans rfl; have hf0 := blk_frozen FZ.out 0; have hf1 := blk_frozen FZ.out 1; go_simp)
         refine hK.out _ _ ?_ ?_
         ·exact past (by kernel_rfl)
         clear hK K
         try simp only [Act.put, s1_, s2_, s3_]
         refine AnyT.done (by kernel_rfl) ?_ _
         refine NoPanic.normal ?_
         (go_wp2; go_meet)
         (case rel => exact ⟨gz, .slice A27 6 c27, .slice A35 (l0_7.length + 2) c35, rfl, ⟨PE.of (vN' := .slice none 0 0) (vT' := .slice none 0 0) HL.out HB.out FN.out FT.out FZ.out FG.out⟩⟩)
      case b6924 =>
       (refine step_alloc (ob := .cells #[.slice none 0 0, .slice none 0 0] 48) (by rfl) ?hr ?_; (case hr => first | (go_simp; done) | (go_simp; rfl)); intro w9 gz hq hge hb; have FG : Aside0 (w.heap.size ≤ gz) := ⟨Nat.le_trans HB.out.size hge⟩; (try replace FN := Aside0.mk (Kd.R_below FN.out hb)); (try replace FT := Aside0.mk (Kd.R_below FT.out hb)); (try replace FZ := Aside0.mk (blk_below FZ.out hb)); replace HL := Aside0.mk (blk_below HL.out hb); replace HB := Aside0.mk (below_step HB.out hb); have FZ := Aside0.mk hq; clear hq hge hb)
       refine hK.out _ _ ?_ ?_
       ·intro _; exact HL.out
       clear hK K
       try simp only [Act.put, s1_, s2_, s3_]
       refine AnyT.ready (rs := [14]) (by kernel_rfl) (by simp) (AllT.step rfl (fun K hK => ?b7814) AllT.nil)
       case b7814 =>
        (refine Kd.R_lit_step (Kd.int .i64) (w0 := w) w.heap.size 3 (by rfl) (N := 27) (by rfl) (xs := [a0_0, a0_1, a0_2, a0_3, (oneI a0_6), (l0_7.length : Int)]) (inner := [.int .i64 a0_0, .int .i64 a0_1, .int .i64 a0_2, .int .i64 a0_3, .int .i64 (oneI a0_6), .int .i64 (l0_7.length : Int)]) (ok := fun _ => True) (okp := fun _ => True) ?hr (reps_ints _ _ _ [a0_0, a0_1, a0_2, a0_3, (oneI a0_6), (l0_7.length : Int)]) (fun _ h => h) trivial HB.out HB.out.size (by simp) ?_; (case hr => first | (go_simp; done) | (go_simp; rfl)); intro vx w9 ho hb hg hat; (try replace FN := Aside0.mk (Kd.R_grown FN.out hg (fun _ _ => by simp))); (try replace FT := Aside0.mk (Kd.R_grown FT.out hg (fun _ _ => by simp))); (try replace FZ := Aside0.mk (blk_grown FZ.out hg (by simp))); replace HL := Aside0.mk (blk_grown HL.out hg (by simp)); replace HB := Aside0.mk hb; obtain ⟨A27, c27, e9⟩ := Kd.R_slice ho; subst e9; have FN := Aside0.mk ho; clear ho hb hg hat)
        refine hK.out _ _ ?_ ?_
        ·intro _; exact HL.out
        clear hK K
        try simp only [Act.put, s1_, s2_, s3_]
        refine AnyT.taken (i := 23) (v := ?v80) rfl (by kernel_rfl) (by kernel_rfl) (by kernel_rfl) (by kernel_rfl) (fun _ _ _ h => h) (Or.inl ⟨by rfl, ?y80⟩) ?s80 ?_
        case y80 =>
         intro wSW hSW
         (obtain ⟨k0, k1, k2, k3, k4, k5, k6, k7⟩ := keep8 hSW; go_simp)
         all_goals with_reducible rfl
        case s80 => exact HL.out
        try simp only [Act.put, s1_, s2_, s3_]
        refine AnyT.ready (rs := [25]) (by kernel_rfl) (by simp) (AllT.step rfl (fun K hK => ?b8125) AllT.nil)
        case b8125 =>
         (have hs0 := (blk_cell FZ.out 0).trans rfl; have hs1 := (blk_cell FZ.out 1).trans rfl; have hf0 := blk_frozen FZ.out 0; have hf1 := blk_frozen FZ.out 1; go_simp)
         refine hK.out _ _ ?_ ?_
         ·exact past (by kernel_rfl)
         clear hK K
         try simp only [Act.put, s1_, s2_, s3_]
         refine AnyT.done (by kernel_rfl) ?_ _
         refine NoPanic.normal ?_
         (go_wp2; go_meet)
         (case rel => exact ⟨gz, .slice A27 6 c27, .slice A35 (l0_7.length + 2) c35, rfl, ⟨PE.of (vN' := .slice none 0 0) (vT' := .slice none 0 0) HL.out HB.out FN.out FT.out FZ.out FG.out⟩⟩)
     case b5124 =>
      (refine step_alloc (ob := .cells #[.slice none 0 0, .slice none 0 0] 48) (by rfl) ?hr ?_; (case hr => first | (go_simp; done) | (go_simp; rfl)); intro w9 gz hq hge hb; have FG : Aside0 (w.heap.size ≤ gz) := ⟨Nat.le_trans HB.out.size hge⟩; (try replace FN := Aside0.mk (Kd.R_below FN.out hb)); (try replace FT := Aside0.mk (Kd.R_below FT.out hb)); (try replace FZ := Aside0.mk (blk_below FZ.out hb)); replace HL := Aside0.mk (blk_below HL.out hb); replace HB := Aside0.mk (below_step HB.out hb); have FZ := Aside0.mk hq; clear hq hge hb)
      refine hK.out _ _ ?_ ?_
      ·intro _; exact HL.out
      clear hK K
      try simp only [Act.put, s1_, s2_, s3_]
      refine AnyT.ready (rs := [14, 22]) (by kernel_rfl) (by simp) (AllT.step rfl (fun K hK => ?b8514) (AllT.step rfl (fun K hK => ?b8522) AllT.nil))
      case b8514 =>
       (refine Kd.R_lit_step (Kd.int .i64) (w0 := w) w.heap.size 3 (by rfl) (N := 27) (by rfl) (xs := [a0_0, a0_1, a0_2, a0_3, (oneI a0_6), (l0_7.length : Int)]) (inner := [.int .i64 a0_0, .int .i64 a0_1, .int .i64 a0_2, .int .i64 a0_3, .int .i64 (oneI a0_6), .int .i64 (l0_7.length : Int)]) (ok := fun _ => True) (okp := fun _ => True) ?hr (reps_ints _ _ _ [a0_0, a0_1, a0_2, a0_3, (oneI a0_6), (l0_7.length : Int)]) (fun _ h => h) trivial HB.out HB.out.size (by simp) ?_; (case hr => first | (go_simp; done) | (go_simp; rfl)); intro vx w9 ho hb hg hat; (try replace FN := Aside0.mk (Kd.R_grown FN.out hg (fun _ _ => by simp))); (try replace FT := Aside0.mk (Kd.R_grown FT.out hg (fun _ _ => by simp))); (try replace FZ := Aside0.mk (blk_grown FZ.out hg (by simp))); replace HL := Aside0.mk (blk_grown HL.out hg (by simp)); replace HB := Aside0.mk hb; obtain ⟨A27, c27, e9⟩ := Kd.R_slice ho; subst e9; have FN := Aside0.mk ho; clear ho hb hg hat)
       refine hK.out _ _ ?_ ?_
       ·intro _; exact HL.out
       clear hK K
       try simp only [Act.put, s1_, s2_, s3_]
       refine AnyT.ready (rs := [22]) (by kernel_rfl) (by simp) (AllT.step rfl (fun K hK => ?b8722) AllT.nil)
       case b8722 =>
        (refine Kd.R_append_rows_step Kd.string (w0 := w) w.heap.size (by rfl) (.tmp 32) (.tmp 34) 22 9 (.string ⟨#[]⟩) 16 (by rfl) Try.underlying22 info9 rfl (by decide) (by omega) (.slice A32 2 c32) [a0_4, a0_5] l0_7 _ _ _ (fun _ => True) (fun _ => False) (by rfl) (by rfl) FT.out (Kd.C_below HR7.out HB.out) (fun _ _ h => h) (fun _ h => h.elim) (fun _ _ => trivial) HB.out HB.out.size (by simp only [List.length_cons, List.length_nil]; omega) ?_; intro vx w9 ho hb hg hat; (try replace FN := Aside0.mk (Kd.R_over FN.out FT.out (by decide) hg)); (try replace FZ := Aside0.mk (blk_grown FZ.out hg (Kd.R_ne FT.out FZ.out (by decide)))); replace HL := Aside0.mk (blk_grown HL.out hg (Kd.R_ne FT.out HL.out (by decide))); replace HB := Aside0.mk hb; obtain ⟨A35, c35, e9⟩ := Kd.R_slice ho; subst e9; replace FT := Aside0.mk ho; clear ho hb hg hat)
        refine hK.out _ _ ?_ ?_
        ·intro _; exact HL.out
        clear hK K
        try simp only [Act.put, s1_, s2_, s3_]
        refine AnyT.taken (i := 23) (v := ?v89) rfl (by kernel_rfl) (by kernel_rfl) (by kernel_rfl) (by kernel_rfl) (fun _ _ _ h => h) (Or.inl ⟨by rfl, ?y89⟩) ?s89 ?_
        case y89 =>
         intro wSW hSW
         (obtain ⟨k0, k1, k2, k3, k4, k5, k6, k7⟩ := keep8 hSW; go_simp)
         all_goals with_reducible rfl
        case s89 => exact HL.out
        try simp only [Act.put, s1_, s2_, s3_]
        refine AnyT.ready (rs := [25]) (by kernel_rfl) (by simp) (AllT.step rfl (fun K hK => ?b9025) AllT.nil)
        case b9025 =>
         (have hs0 := (blk_cell FZ.out 0).trans rfl; have hs1 := (blk_cell FZ.out 1).trans rfl; have hf0 := blk_frozen FZ.out 0; have hf1 := blk_frozen FZ.out 1; go_simp)
         refine hK.out _ _ ?_ ?_
         ·exact past (by kernel_rfl)
         clear hK K
         try simp only [Act.put, s1_, s2_, s3_]
         refine AnyT.done (by kernel_rfl) ?_ _
         refine NoPanic.normal ?_
         (go_wp2; go_meet)
         (case rel => exact ⟨gz, .slice A27 6 c27, .slice A35 (l0_7.length + 2) c35, rfl, ⟨PE.of (vN' := .slice none 0 0) (vT' := .slice none 0 0) HL.out HB.out FN.out FT.out FZ.out FG.out⟩⟩)
      case b8522 =>
       (refine Kd.R_append_rows_step Kd.string (w0 := w) w.heap.size (by rfl) (.tmp 32) (.tmp 34) 22 9 (.string ⟨#[]⟩) 16 (by rfl) Try.underlying22 info9 rfl (by decide) (by omega) (.slice A32 2 c32) [a0_4, a0_5] l0_7 _ _ _ (fun _ => True) (fun _ => False) (by rfl) (by rfl) FT.out (Kd.C_below HR7.out HB.out) (fun _ _ h => h) (fun _ h => h.elim) (fun _ _ => trivial) HB.out HB.out.size (by simp only [List.length_cons, List.length_nil]; omega) ?_; intro vx w9 ho hb hg hat; (try replace FN := Aside0.mk (Kd.R_over FN.out FT.out (by decide) hg)); (try replace FZ := Aside0.mk (blk_grown FZ.out hg (Kd.R_ne FT.out FZ.out (by decide)))); replace HL := Aside0.mk (blk_grown HL.out hg (Kd.R_ne FT.out HL.out (by decide))); replace HB := Aside0.mk hb; obtain ⟨A35, c35, e9⟩ := Kd.R_slice ho; subst e9; replace FT := Aside0.mk ho; clear ho hb hg hat)
       refine hK.out _ _ ?_ ?_
       ·intro _; exact HL.out
       clear hK K
       try simp only [Act.put, s1_, s2_, s3_]
       refine AnyT.ready (rs := [14]) (by kernel_rfl) (by simp) (AllT.step rfl (fun K hK => ?b9414) AllT.nil)
       case b9414 =>
        (refine Kd.R_lit_step (Kd.int .i64) (w0 := w) w.heap.size 3 (by rfl) (N := 27) (by rfl) (xs := [a0_0, a0_1, a0_2, a0_3, (oneI a0_6), (l0_7.length : Int)]) (inner := [.int .i64 a0_0, .int .i64 a0_1, .int .i64 a0_2, .int .i64 a0_3, .int .i64 (oneI a0_6), .int .i64 (l0_7.length : Int)]) (ok := fun _ => True) (okp := fun _ => True) ?hr (reps_ints _ _ _ [a0_0, a0_1, a0_2, a0_3, (oneI a0_6), (l0_7.length : Int)]) (fun _ h => h) trivial HB.out HB.out.size (by simp) ?_; (case hr => first | (go_simp; done) | (go_simp; rfl)); intro vx w9 ho hb hg hat; (try replace FN := Aside0.mk (Kd.R_grown FN.out hg (fun _ _ => by simp))); (try replace FT := Aside0.mk (Kd.R_grown FT.out hg (fun _ _ => by simp))); (try replace FZ := Aside0.mk (blk_grown FZ.out hg (by simp))); replace HL := Aside0.mk (blk_grown HL.out hg (by simp)); replace HB := Aside0.mk hb; obtain ⟨A27, c27, e9⟩ := Kd.R_slice ho; subst e9; have FN := Aside0.mk ho; clear ho hb hg hat)
        refine hK.out _ _ ?_ ?_
        ·intro _; exact HL.out
        clear hK K
        try simp only [Act.put, s1_, s2_, s3_]
        refine AnyT.taken (i := 23) (v := ?v96) rfl (by kernel_rfl) (by kernel_rfl) (by kernel_rfl) (by kernel_rfl) (fun _ _ _ h => h) (Or.inl ⟨by rfl, ?y96⟩) ?s96 ?_
        case y96 =>
         intro wSW hSW
         (obtain ⟨k0, k1, k2, k3, k4, k5, k6, k7⟩ := keep8 hSW; go_simp)
         all_goals with_reducible rfl
        case s96 => exact HL.out
        try simp only [Act.put, s1_, s2_, s3_]
        refine AnyT.ready (rs := [25]) (by kernel_rfl) (by simp) (AllT.step rfl (fun K hK => ?b9725) AllT.nil)
        case b9725 =>
         (have hs0 := (blk_cell FZ.out 0).trans rfl; have hs1 := (blk_cell FZ.out 1).trans rfl; have hf0 := blk_frozen FZ.out 0; have hf1 := blk_frozen FZ.out 1; go_simp)
         refine hK.out _ _ ?_ ?_
         ·exact past (by kernel_rfl)
         clear hK K
         try simp only [Act.put, s1_, s2_, s3_]
         refine AnyT.done (by kernel_rfl) ?_ _
         refine NoPanic.normal ?_
         (go_wp2; go_meet)
         (case rel => exact ⟨gz, .slice A27 6 c27, .slice A35 (l0_7.length + 2) c35, rfl, ⟨PE.of (vN' := .slice none 0 0) (vT' := .slice none 0 0) HL.out HB.out FN.out FT.out FZ.out FG.out⟩⟩)
    case b2224 =>
     (refine step_alloc (ob := .cells #[.slice none 0 0, .slice none 0 0] 48) (by rfl) ?hr ?_; (case hr => first | (go_simp; done) | (go_simp; rfl)); intro w9 gz hq hge hb; have FG : Aside0 (w.heap.size ≤ gz) := ⟨Nat.le_trans HB.out.size hge⟩; (try replace FN := Aside0.mk (Kd.R_below FN.out hb)); (try replace FT := Aside0.mk (Kd.R_below FT.out hb)); (try replace FZ := Aside0.mk (blk_below FZ.out hb)); replace HL := Aside0.mk (blk_below HL.out hb); replace HB := Aside0.mk (below_step HB.out hb); have FZ := Aside0.mk hq; clear hq hge hb)
     refine hK.out _ _ ?_ ?_
     ·intro _; exact HL.out
     clear hK K
     try simp only [Act.put, s1_, s2_, s3_]
     refine AnyT.ready (rs := [14, 19]) (by kernel_rfl) (by simp) (AllT.step rfl (fun K hK => ?b10114) (AllT.step rfl (fun K hK => ?b10119) AllT.nil))
     case b10114 =>
      (refine Kd.R_lit_step (Kd.int .i64) (w0 := w) w.heap.size 3 (by rfl) (N := 27) (by rfl) (xs := [a0_0, a0_1, a0_2, a0_3, (oneI a0_6), (l0_7.length : Int)]) (inner := [.int .i64 a0_0, .int .i64 a0_1, .int .i64 a0_2, .int .i64 a0_3, .int .i64 (oneI a0_6), .int .i64 (l0_7.length : Int)]) (ok := fun _ => True) (okp := fun _ => True) ?hr (reps_ints _ _ _ [a0_0, a0_1, a0_2, a0_3, (oneI a0_6), (l0_7.length : Int)]) (fun _ h => h) trivial HB.out HB.out.size (by simp) ?_; (case hr => first | (go_simp; done) | (go_simp; rfl)); intro vx w9 ho hb hg hat; (try replace FN := Aside0.mk (Kd.R_grown FN.out hg (fun _ _ => by simp))); (try replace FT := Aside0.mk (Kd.R_grown FT.out hg (fun _ _ => by simp))); (try replace FZ := Aside0.mk (blk_grown FZ.out hg (by simp))); replace HL := Aside0.mk (blk_grown HL.out hg (by simp)); replace HB := Aside0.mk hb; obtain ⟨A27, c27, e9⟩ := Kd.R_slice ho; subst e9; have FN := Aside0.mk ho; clear ho hb hg hat)
      refine hK.out _ _ ?_ ?_
      ·intro _; exact HL.out
      clear hK K
      try simp only [Act.put, s1_, s2_, s3_]
      refine AnyT.ready (rs := [19]) (by kernel_rfl) (by simp) (AllT.step rfl (fun K hK => ?b10319) AllT.nil)
      case b10319 =>
       (refine Kd.R_lit_step Kd.string (w0 := w) w.heap.size 9 (by rfl) (N := 32) (by rfl) (xs := [a0_4, a0_5]) (inner := [.string a0_4, .string a0_5]) (ok := fun _ => True) (okp := fun _ => True) ?hr (reps_texts _ _ _ [a0_4, a0_5]) (fun _ h => h) trivial HB.out HB.out.size (by simp) ?_; (case hr => first | (go_simp; done) | (go_simp; rfl)); intro vx w9 ho hb hg hat; (try replace FN := Aside0.mk (Kd.R_grown FN.out hg (fun _ _ => by simp))); (try replace FT := Aside0.mk (Kd.R_grown FT.out hg (fun _ _ => by simp))); (try replace FZ := Aside0.mk (blk_grown FZ.out hg (by simp))); replace HL := Aside0.mk (blk_grown HL.out hg (by simp)); replace HB := Aside0.mk hb; obtain ⟨A32, c32, e9⟩ := Kd.R_slice ho; subst e9; have FT := Aside0.mk ho; clear ho hb hg hat)
       refine hK.out _ _ ?_ ?_
       ·intro _; exact HL.out
       clear hK K
       try simp only [Act.put, s1_, s2_, s3_]
       refine AnyT.ready (rs := [22]) (by kernel_rfl) (by simp) (AllT.step rfl (fun K hK => ?b10522) AllT.nil)
       case b10522 =>
        (refine Kd.R_append_rows_step Kd.string (w0 := w) w.heap.size (by rfl) (.tmp 32) (.tmp 34) 22 9 (.string ⟨#[]⟩) 16 (by rfl) Try.underlying22 info9 rfl (by decide) (by omega) (.slice A32 2 c32) [a0_4, a0_5] l0_7 _ _ _ (fun _ => True) (fun _ => False) (by rfl) (by rfl) FT.out (Kd.C_below HR7.out HB.out) (fun _ _ h => h) (fun _ h => h.elim) (fun _ _ => trivial) HB.out HB.out.size (by simp only [List.length_cons, List.length_nil]; omega) ?_; intro vx w9 ho hb hg hat; (try replace FN := Aside0.mk (Kd.R_over FN.out FT.out (by decide) hg)); (try replace FZ := Aside0.mk (blk_grown FZ.out hg (Kd.R_ne FT.out FZ.out (by decide)))); replace HL := Aside0.mk (blk_grown HL.out hg (Kd.R_ne FT.out HL.out (by decide))); replace HB := Aside0.mk hb; obtain ⟨A35, c35, e9⟩ := Kd.R_slice ho; subst e9; replace FT := Aside0.mk ho; clear ho hb hg hat)
        refine hK.out _ _ ?_ ?_
        ·intro _; exact HL.out
        clear hK K
        try simp only [Act.put, s1_, s2_, s3_]
        refine AnyT.taken (i := 23) (v := ?v107) rfl (by kernel_rfl) (by kernel_rfl) (by kernel_rfl) (by kernel_rfl) (fun _ _ _ h => h) (Or.inl ⟨by rfl, ?y107⟩) ?s107 ?_
        case y107 =>
         intro wSW hSW
         (obtain ⟨k0, k1, k2, k3, k4, k5, k6, k7⟩ := keep8 hSW; go_simp)
         all_goals with_reducible rfl
        case s107 => exact HL.out
        try simp only [Act.put, s1_, s2_, s3_]
        refine AnyT.ready (rs := [25]) (by kernel_rfl) (by simp) (AllT.step rfl (fun K hK => ?b10825) AllT.nil)
        case b10825 =>
         (have hs0 := (blk_cell FZ.out 0).trans rfl; have hs1 := (blk_cell FZ.out 1).trans rfl; have hf0 := blk_frozen FZ.out 0; have hf1 := blk_frozen FZ.out 1; go_simp)
         refine hK.out _ _ ?_ ?_
         ·exact past (by kernel_rfl)
         clear hK K
         try simp only [Act.put, s1_, s2_, s3_]
         refine AnyT.done (by kernel_rfl) ?_ _
         refine NoPanic.normal ?_
         (go_wp2; go_meet)
         (case rel => exact ⟨gz, .slice A27 6 c27, .slice A35 (l0_7.length + 2) c35, rfl, ⟨PE.of (vN' := .slice none 0 0) (vT' := .slice none 0 0) HL.out HB.out FN.out FT.out FZ.out FG.out⟩⟩)
     case b10119 =>
      (refine Kd.R_lit_step Kd.string (w0 := w) w.heap.size 9 (by rfl) (N := 32) (by rfl) (xs := [a0_4, a0_5]) (inner := [.string a0_4, .string a0_5]) (ok := fun _ => True) (okp := fun _ => True) ?hr (reps_texts _ _ _ [a0_4, a0_5]) (fun _ h => h) trivial HB.out HB.out.size (by simp) ?_; (case hr => first | (go_simp; done) | (go_simp; rfl)); intro vx w9 ho hb hg hat; (try replace FN := Aside0.mk (Kd.R_grown FN.out hg (fun _ _ => by simp))); (try replace FT := Aside0.mk (Kd.R_grown FT.out hg (fun _ _ => by simp))); (try replace FZ := Aside0.mk (blk_grown FZ.out hg (by simp))); replace HL := Aside0.mk (blk_grown HL.out hg (by simp)); replace HB := Aside0.mk hb; obtain ⟨A32, c32, e9⟩ := Kd.R_slice ho; subst e9; have FT := Aside0.mk ho; clear ho hb hg hat)
      refine hK.out _ _ ?_ ?_
      ·intro _; exact HL.out
      clear hK K
      try simp only [Act.put, s1_, s2_, s3_]
      refine AnyT.ready (rs := [14, 22]) (by kernel_rfl) (by simp) (AllT.step rfl (fun K hK => ?b11214) (AllT.step rfl (fun K hK => ?b11222) AllT.nil))
      case b11214 =>
       (refine Kd.R_lit_step (Kd.int .i64) (w0 := w) w.heap.size 3 (by rfl) (N := 27) (by rfl) (xs := [a0_0, a0_1, a0_2, a0_3, (oneI a0_6), (l0_7.length : Int)]) (inner := [.int .i64 a0_0, .int .i64 a0_1, .int .i64 a0_2, .int .i64 a0_3, .int .i64 (oneI a0_6), .int .i64 (l0_7.length : Int)]) (ok := fun _ => True) (okp := fun _ => True) ?hr (reps_ints _ _ _ [a0_0, a0_1, a0_2, a0_3, (oneI a0_6), (l0_7.length : Int)]) (fun _ h => h) trivial HB.out HB.out.size (by simp) ?_; (case hr => first | (go_simp; done) | (go_simp; rfl)); intro vx w9 ho hb hg hat; (try replace FN := Aside0.mk (Kd.R_grown FN.out hg (fun _ _ => by simp))); (try replace FT := Aside0.mk (Kd.R_grown FT.out hg (fun _ _ => by simp))); (try replace FZ := Aside0.mk (blk_grown FZ.out hg (by simp))); replace HL := Aside0.mk (blk_grown HL.out hg (by simp)); replace HB := Aside0.mk hb; obtain ⟨A27, c27, e9⟩ := Kd.R_slice ho; subst e9; have FN := Aside0.mk ho; clear ho hb hg hat)
       refine hK.out _ _ ?_ ?_
       ·intro _; exact HL.out
       clear hK K
       try simp only [Act.put, s1_, s2_, s3_]
       refine AnyT.ready (rs := [22]) (by kernel_rfl) (by simp) (AllT.step rfl (fun K hK => ?b11422) AllT.nil)
       case b11422 =>
        (refine Kd.R_append_rows_step Kd.string (w0 := w) w.heap.size (by rfl) (.tmp 32) (.tmp 34) 22 9 (.string ⟨#[]⟩) 16 (by rfl) Try.underlying22 info9 rfl (by decide) (by omega) (.slice A32 2 c32) [a0_4, a0_5] l0_7 _ _ _ (fun _ => True) (fun _ => False) (by rfl) (by rfl) FT.out (Kd.C_below HR7.out HB.out) (fun _ _ h => h) (fun _ h => h.elim) (fun _ _ => trivial) HB.out HB.out.size (by simp only [List.length_cons, List.length_nil]; omega) ?_; intro vx w9 ho hb hg hat; (try replace FN := Aside0.mk (Kd.R_over FN.out FT.out (by decide) hg)); (try replace FZ := Aside0.mk (blk_grown FZ.out hg (Kd.R_ne FT.out FZ.out (by decide)))); replace HL := Aside0.mk (blk_grown HL.out hg (Kd.R_ne FT.out HL.out (by decide))); replace HB := Aside0.mk hb; obtain ⟨A35, c35, e9⟩ := Kd.R_slice ho; subst e9; replace FT := Aside0.mk ho; clear ho hb hg hat)
        refine hK.out _ _ ?_ ?_
        ·intro _; exact HL.out
        clear hK K
        try simp only [Act.put, s1_, s2_, s3_]
        refine AnyT.taken (i := 23) (v := ?v116) rfl (by kernel_rfl) (by kernel_rfl) (by kernel_rfl) (by kernel_rfl) (fun _ _ _ h => h) (Or.inl ⟨by rfl, ?y116⟩) ?s116 ?_
        case y116 =>
         intro wSW hSW
         (obtain ⟨k0, k1, k2, k3, k4, k5, k6, k7⟩ := keep8 hSW; go_simp)
         all_goals with_reducible rfl
        case s116 => exact HL.out
        try simp only [Act.put, s1_, s2_, s3_]
        refine AnyT.ready (rs := [25]) (by kernel_rfl) (by simp) (AllT.step rfl (fun K hK => ?b11725) AllT.nil)
        case b11725 =>
         (have hs0 := (blk_cell FZ.out 0).trans rfl; have hs1 := (blk_cell FZ.out 1).trans rfl; have hf0 := blk_frozen FZ.out 0; have hf1 := blk_frozen FZ.out 1; go_simp)
         refine hK.out _ _ ?_ ?_
         ·exact past (by kernel_rfl)
         clear hK K
         try simp only [Act.put, s1_, s2_, s3_]
         refine AnyT.done (by kernel_rfl) ?_ _
         refine NoPanic.normal ?_
         (go_wp2; go_meet)
         (case rel => exact ⟨gz, .slice A27 6 c27, .slice A35 (l0_7.length + 2) c35, rfl, ⟨PE.of (vN' := .slice none 0 0) (vT' := .slice none 0 0) HL.out HB.out FN.out FT.out FZ.out FG.out⟩⟩)
      case b11222 =>
       (refine Kd.R_append_rows_step Kd.string (w0 := w) w.heap.size (by rfl) (.tmp 32) (.tmp 34) 22 9 (.string ⟨#[]⟩) 16 (by rfl) Try.underlying22 info9 rfl (by decide) (by omega) (.slice A32 2 c32) [a0_4, a0_5] l0_7 _ _ _ (fun _ => True) (fun _ => False) (by rfl) (by rfl) FT.out (Kd.C_below HR7.out HB.out) (fun _ _ h => h) (fun _ h => h.elim) (fun _ _ => trivial) HB.out HB.out.size (by simp only [List.length_cons, List.length_nil]; omega) ?_; intro vx w9 ho hb hg hat; (try replace FN := Aside0.mk (Kd.R_over FN.out FT.out (by decide) hg)); (try replace FZ := Aside0.mk (blk_grown FZ.out hg (Kd.R_ne FT.out FZ.out (by decide)))); replace HL := Aside0.mk (blk_grown HL.out hg (Kd.R_ne FT.out HL.out (by decide))); replace HB := Aside0.mk hb; obtain ⟨A35, c35, e9⟩ := Kd.R_slice ho; subst e9; replace FT := Aside0.mk ho; clear ho hb hg hat)
       refine hK.out _ _ ?_ ?_
       ·intro _; exact HL.out
       clear hK K
       try simp only [Act.put, s1_, s2_, s3_]
       refine AnyT.ready (rs := [14]) (by kernel_rfl) (by simp) (AllT.step rfl (fun K hK => ?b12114) AllT.nil)
       case b12114 =>
        (refine Kd.R_lit_step (Kd.int .i64) (w0 := w) w.heap.size 3 (by rfl) (N := 27) (by rfl) (xs := [a0_0, a0_1, a0_2, a0_3, (oneI a0_6), (l0_7.length : Int)]) (inner := [.int .i64 a0_0, .int .i64 a0_1, .int .i64 a0_2, .int .i64 a0_3, .int .i64 (oneI a0_6), .int .i64 (l0_7.length : Int)]) (ok := fun _ => True) (okp := fun _ => True) ?hr (reps_ints _ _ _ [a0_0, a0_1, a0_2, a0_3, (oneI a0_6), (l0_7.length : Int)]) (fun _ h => h) trivial HB.out HB.out.size (by simp) ?_; (case hr => first | (go_simp; done) | (go_simp; rfl)); intro vx w9 ho hb hg hat; (try replace FN := Aside0.mk (Kd.R_grown FN.out hg (fun _ _ => by simp))); (try replace FT := Aside0.mk (Kd.R_grown FT.out hg (fun _ _ => by simp))); (try replace FZ := Aside0.mk (blk_grown FZ.out hg (by simp))); replace HL := Aside0.mk (blk_grown HL.out hg (by simp)); replace HB := Aside0.mk hb; obtain ⟨A27, c27, e9⟩ := Kd.R_slice ho; subst e9; have FN := Aside0.mk ho; clear ho hb hg hat)
        refine hK.out _ _ ?_ ?_
        ·intro _; exact HL.out
        clear hK K
        try simp only [Act.put, s1_, s2_, s3_]
        refine AnyT.taken (i := 23) (v := ?v123) rfl (by kernel_rfl) (by kernel_rfl) (by kernel_rfl) (by kernel_rfl) (fun _ _ _ h => h) (Or.inl ⟨by rfl, ?y123⟩) ?s123 ?_
        case y123 =>
         intro wSW hSW
         (obtain ⟨k0, k1, k2, k3, k4, k5, k6, k7⟩ := keep8 hSW; go_simp)
         all_goals with_reducible rfl
        case s123 => exact HL.out
        try simp only [Act.put, s1_, s2_, s3_]
        refine AnyT.ready (rs := [25]) (by kernel_rfl) (by simp) (AllT.step rfl (fun K hK => ?b12425) AllT.nil)
        case b12425 =>
         (have hs0 := (blk_cell FZ.out 0).trans rfl; have hs1 := (blk_cell FZ.out 1).trans rfl; have hf0 := blk_frozen FZ.out 0; have hf1 := blk_frozen FZ.out 1; go_simp)
         refine hK.out _ _ ?_ ?_
         ·exact past (by kernel_rfl)
         clear hK K
         try simp only [Act.put, s1_, s2_, s3_]
         refine AnyT.done (by kernel_rfl) ?_ _
         refine NoPanic.normal ?_
         (go_wp2; go_meet)
         (case rel => exact ⟨gz, .slice A27 6 c27, .slice A35 (l0_7.length + 2) c35, rfl, ⟨PE.of (vN' := .slice none 0 0) (vT' := .slice none 0 0) HL.out HB.out FN.out FT.out FZ.out FG.out⟩⟩)
   case b2019 =>
    (refine Kd.R_lit_step Kd.string (w0 := w) w.heap.size 9 (by rfl) (N := 32) (by rfl) (xs := [a0_4, a0_5]) (inner := [.string a0_4, .string a0_5]) (ok := fun _ => True) (okp := fun _ => True) ?hr (reps_texts _ _ _ [a0_4, a0_5]) (fun _ h => h) trivial HB.out HB.out.size (by simp) ?_; (case hr => first | (go_simp; done) | (go_simp; rfl)); intro vx w9 ho hb hg hat; (try replace FN := Aside0.mk (Kd.R_grown FN.out hg (fun _ _ => by simp))); (try replace FT := Aside0.mk (Kd.R_grown FT.out hg (fun _ _ => by simp))); (try replace FZ := Aside0.mk (blk_grown FZ.out hg (by simp))); replace HL := Aside0.mk (blk_grown HL.out hg (by simp)); replace HB := Aside0.mk hb; obtain ⟨A32, c32, e9⟩ := Kd.R_slice ho; subst e9; have FT := Aside0.mk ho; clear ho hb hg hat)
    refine hK.out _ _ ?_ ?_
    ·intro _; exact HL.out
    clear hK K
    try simp only [Act.put, s1_, s2_, s3_]
    refine AnyT.ready (rs := [10, 24]) (by kernel_rfl) (by simp) (AllT.step rfl (fun K hK => ?b12810) (AllT.step rfl (fun K hK => ?b12824) AllT.nil))
    case b12810 =>
     (refine goes_ Try.func20 (by kernel_rfl) rfl #[.bool a0_6] (by rfl) rfl rfl (by (try simp only [List.map_toArray, List.map_cons, List.map_nil]); first | done | rfl) ?_; refine (one_calls a0_6 _).mono ?_; rintro e w9 ⟨rfl, hb⟩; refine ⟨_, rfl, ?_⟩; (try replace FN := Aside0.mk (Kd.R_below FN.out hb)); (try replace FT := Aside0.mk (Kd.R_below FT.out hb)); (try replace FZ := Aside0.mk (blk_below FZ.out hb)); replace HL := Aside0.mk (blk_below HL.out hb); replace HB := Aside0.mk (below_step HB.out hb); clear hb)
     refine hK.out _ _ ?_ ?_
     ·intro _; exact HL.out
     clear hK K
     try simp only [Act.put, s1_, s2_, s3_]
     refine AnyT.ready (rs := [14, 22, 24]) (by kernel_rfl) (by simp) (AllT.step rfl (fun K hK => ?b13014) (AllT.step rfl (fun K hK => ?b13022) (AllT.step rfl (fun K hK => ?b13024) AllT.nil)))
     case b13014 =>
      (refine Kd.R_lit_step (Kd.int .i64) (w0 := w) w.heap.size 3 (by rfl) (N := 27) (by rfl) (xs := [a0_0, a0_1, a0_2, a0_3, (oneI a0_6), (l0_7.length : Int)]) (inner := [.int .i64 a0_0, .int .i64 a0_1, .int .i64 a0_2, .int .i64 a0_3, .int .i64 (oneI a0_6), .int .i64 (l0_7.length : Int)]) (ok := fun _ => True) (okp := fun _ => True) ?hr (reps_ints _ _ _ [a0_0, a0_1, a0_2, a0_3, (oneI a0_6), (l0_7.length : Int)]) (fun _ h => h) trivial HB.out HB.out.size (by simp) ?_; (case hr => first | (go_simp; done) | (go_simp; rfl)); intro vx w9 ho hb hg hat; (try replace FN := Aside0.mk (Kd.R_grown FN.out hg (fun _ _ => by simp))); (try replace FT := Aside0.mk (Kd.R_grown FT.out hg (fun _ _ => by simp))); (try replace FZ := Aside0.mk (blk_grown FZ.out hg (by simp))); replace HL := Aside0.mk (blk_grown HL.out hg (by simp)); replace HB := Aside0.mk hb; obtain ⟨A27, c27, e9⟩ := Kd.R_slice ho; subst e9; have FN := Aside0.mk ho; clear ho hb hg hat)
      refine hK.out _ _ ?_ ?_
      ·intro _; exact HL.out
      clear hK K
      try simp only [Act.put, s1_, s2_, s3_]
      refine AnyT.ready (rs := [22, 24]) (by kernel_rfl) (by simp) (AllT.step rfl (fun K hK => ?b13222) (AllT.step rfl (fun K hK => ?b13224) AllT.nil))
      case b13222 =>
       (refine Kd.R_append_rows_step Kd.string (w0 := w) w.heap.size (by rfl) (.tmp 32) (.tmp 34) 22 9 (.string ⟨#[]⟩) 16 (by rfl) Try.underlying22 info9 rfl (by decide) (by omega) (.slice A32 2 c32) [a0_4, a0_5] l0_7 _ _ _ (fun _ => True) (fun _ => False) (by rfl) (by rfl) FT.out (Kd.C_below HR7.out HB.out) (fun _ _ h => h) (fun _ h => h.elim) (fun _ _ => trivial) HB.out HB.out.size (by simp only [List.length_cons, List.length_nil]; omega) ?_; intro vx w9 ho hb hg hat; (try replace FN := Aside0.mk (Kd.R_over FN.out FT.out (by decide) hg)); (try replace FZ := Aside0.mk (blk_grown FZ.out hg (Kd.R_ne FT.out FZ.out (by decide)))); replace HL := Aside0.mk (blk_grown HL.out hg (Kd.R_ne FT.out HL.out (by decide))); replace HB := Aside0.mk hb; obtain ⟨A35, c35, e9⟩ := Kd.R_slice ho; subst e9; replace FT := Aside0.mk ho; clear ho hb hg hat)
       refine hK.out _ _ ?_ ?_
       ·intro _; exact HL.out
       clear hK K
       try simp only [Act.put, s1_, s2_, s3_]
       refine AnyT.taken (i := 23) (v := ?v134) rfl (by kernel_rfl) (by kernel_rfl) (by kernel_rfl) (by kernel_rfl) (fun _ _ _ h => h) (Or.inl ⟨by rfl, ?y134⟩) ?s134 ?_
       case y134 =>
        intro wSW hSW
        (obtain ⟨k0, k1, k2, k3, k4, k5, k6, k7⟩ := keep8 hSW; go_simp)
        all_goals with_reducible rfl
       case s134 => exact HL.out
       try simp only [Act.put, s1_, s2_, s3_]
       refine AnyT.ready (rs := [24]) (by kernel_rfl) (by simp) (AllT.step rfl (fun K hK => ?b13524) AllT.nil)
       case b13524 =>
        (refine step_alloc (ob := .cells #[.slice none 0 0, .slice none 0 0] 48) (by rfl) ?hr ?_; (case hr => first | (go_simp; done) | (go_simp; rfl)); intro w9 gz hq hge hb; have FG : Aside0 (w.heap.size ≤ gz) := ⟨Nat.le_trans HB.out.size hge⟩; (try replace FN := Aside0.mk (Kd.R_below FN.out hb)); (try replace FT := Aside0.mk (Kd.R_below FT.out hb)); (try replace FZ := Aside0.mk (blk_below FZ.out hb)); replace HL := Aside0.mk (blk_below HL.out hb); replace HB := Aside0.mk (below_step HB.out hb); have FZ := Aside0.mk hq; clear hq hge hb)
        refine hK.out _ _ ?_ ?_
        ·intro _; exact HL.out
        clear hK K
        try simp only [Act.put, s1_, s2_, s3_]
        refine AnyT.ready (rs := [25]) (by kernel_rfl) (by simp) (AllT.step rfl (fun K hK => ?b13725) AllT.nil)
        case b13725 =>
         (have hs0 := (blk_cell FZ.out 0).trans rfl; have hs1 := (blk_cell FZ.out 1).trans rfl; have hf0 := blk_frozen FZ.out 0; have hf1 := blk_frozen FZ.out 1; go_simp)
         refine hK.out _ _ ?_ ?_
         ·exact past (by kernel_rfl)
         clear hK K
         try simp only [Act.put, s1_, s2_, s3_]
         refine AnyT.done (by kernel_rfl) ?_ _
         refine NoPanic.normal ?_
         (go_wp2; go_meet)
         (case rel => exact ⟨gz, .slice A27 6 c27, .slice A35 (l0_7.length + 2) c35, rfl, ⟨PE.of (vN' := .slice none 0 0) (vT' := .slice none 0 0) HL.out HB.out FN.out FT.out FZ.out FG.out⟩⟩)
      case b13224 =>
       (refine step_alloc (ob := .cells #[.slice none 0 0, .slice none 0 0] 48) (by rfl) ?hr ?_; (case hr => first | (go_simp; done) | (go_simp; rfl)); intro w9 gz hq hge hb; have FG : Aside0 (w.heap.size ≤ gz) := ⟨Nat.le_trans HB.out.size hge⟩; (try replace FN := Aside0.mk (Kd.R_below FN.out hb)); (try replace FT := Aside0.mk (Kd.R_below FT.out hb)); (try replace FZ := Aside0.mk (blk_below FZ.out hb)); replace HL := Aside0.mk (blk_below HL.out hb); replace HB := Aside0.mk (below_step HB.out hb); have FZ := Aside0.mk hq; clear hq hge hb)
       refine hK.out _ _ ?_ ?_
       ·intro _; exact HL.out
       clear hK K
       try simp only [Act.put, s1_, s2_, s3_]
       refine AnyT.ready (rs := [22]) (by kernel_rfl) (by simp) (AllT.step rfl (fun K hK => ?b14122) AllT.nil)
       case b14122 =>
        (refine Kd.R_append_rows_step Kd.string (w0 := w) w.heap.size (by rfl) (.tmp 32) (.tmp 34) 22 9 (.string ⟨#[]⟩) 16 (by rfl) Try.underlying22 info9 rfl (by decide) (by omega) (.slice A32 2 c32) [a0_4, a0_5] l0_7 _ _ _ (fun _ => True) (fun _ => False) (by rfl) (by rfl) FT.out (Kd.C_below HR7.out HB.out) (fun _ _ h => h) (fun _ h => h.elim) (fun _ _ => trivial) HB.out HB.out.size (by simp only [List.length_cons, List.length_nil]; omega) ?_; intro vx w9 ho hb hg hat; (try replace FN := Aside0.mk (Kd.R_over FN.out FT.out (by decide) hg)); (try replace FZ := Aside0.mk (blk_grown FZ.out hg (Kd.R_ne FT.out FZ.out (by decide)))); replace HL := Aside0.mk (blk_grown HL.out hg (Kd.R_ne FT.out HL.out (by decide))); replace HB := Aside0.mk hb; obtain ⟨A35, c35, e9⟩ := Kd.R_slice ho; subst e9; replace FT := Aside0.mk ho; clear ho hb hg hat)
        refine hK.out _ _ ?_ ?_
        ·intro _; exact HL.out
        clear hK K
        try simp only [Act.put, s1_, s2_, s3_]
        refine AnyT.taken (i := 23) (v := ?v143) rfl (by kernel_rfl) (by kernel_rfl) (by kernel_rfl) (by kernel_rfl) (fun _ _ _ h => h) (Or.inl ⟨by rfl, ?y143⟩) ?s143 ?_
        case y143 =>
         intro wSW hSW
         (obtain ⟨k0, k1, k2, k3, k4, k5, k6, k7⟩ := keep8 hSW; go_simp)
         all_goals with_reducible rfl
        case s143 => exact HL.out
        try simp only [Act.put, s1_, s2_, s3_]
        refine AnyT.ready (rs := [25]) (by kernel_rfl) (by simp) (AllT.step rfl (fun K hK => ?b14425) AllT.nil)
        case b14425 =>
         (have hs0 := (blk_cell FZ.out 0).trans rfl; have hs1 := (blk_cell FZ.out 1).trans rfl; have hf0 := blk_frozen FZ.out 0; have hf1 := blk_frozen FZ.out 1; go_simp)
         refine hK.out _ _ ?_ ?_
         ·exact past (by kernel_rfl)
         clear hK K
         try simp only [Act.put, s1_, s2_, s3_]
         refine AnyT.done (by kernel_rfl) ?_ _
         refine NoPanic.normal ?_
         (go_wp2; go_meet)
         (case rel => exact ⟨gz, .slice A27 6 c27, .slice A35 (l0_7.length + 2) c35, rfl, ⟨PE.of (vN' := .slice none 0 0) (vT' := .slice none 0 0) HL.out HB.out FN.out FT.out FZ.out FG.out⟩⟩)
     case b13022 =>
      (refine Kd.R_append_rows_step Kd.string (w0 := w) w.heap.size (by rfl) (.tmp 32) (.tmp 34) 22 9 (.string ⟨#[]⟩) 16 (by rfl) Try.underlying22 info9 rfl (by decide) (by omega) (.slice A32 2 c32) [a0_4, a0_5] l0_7 _ _ _ (fun _ => True) (fun _ => False) (by rfl) (by rfl) FT.out (Kd.C_below HR7.out HB.out) (fun _ _ h => h) (fun _ h => h.elim) (fun _ _ => trivial) HB.out HB.out.size (by simp only [List.length_cons, List.length_nil]; omega) ?_; intro vx w9 ho hb hg hat; (try replace FN := Aside0.mk (Kd.R_over FN.out FT.out (by decide) hg)); (try replace FZ := Aside0.mk (blk_grown FZ.out hg (Kd.R_ne FT.out FZ.out (by decide)))); replace HL := Aside0.mk (blk_grown HL.out hg (Kd.R_ne FT.out HL.out (by decide))); replace HB := Aside0.mk hb; obtain ⟨A35, c35, e9⟩ := Kd.R_slice ho; subst e9; replace FT := Aside0.mk ho; clear ho hb hg hat)
      refine hK.out _ _ ?_ ?_
      ·intro _; exact HL.out
      clear hK K
      try simp only [Act.put, s1_, s2_, s3_]
      refine AnyT.ready (rs := [14, 24]) (by kernel_rfl) (by simp) (AllT.step rfl (fun K hK => ?b14814) (AllT.step rfl (fun K hK => ?b14824) AllT.nil))
      case b14814 =>
       (refine Kd.R_lit_step (Kd.int .i64) (w0 := w) w.heap.size 3 (by rfl) (N := 27) (by rfl) (xs := [a0_0, a0_1, a0_2, a0_3, (oneI a0_6), (l0_7.length : Int)]) (inner := [.int .i64 a0_0, .int .i64 a0_1, .int .i64 a0_2, .int .i64 a0_3, .int .i64 (oneI a0_6), .int .i64 (l0_7.length : Int)]) (ok := fun _ => True) (okp := fun _ => True) ?hr (reps_ints _ _ _ [a0_0, a0_1, a0_2, a0_3, (oneI a0_6), (l0_7.length : Int)]) (fun _ h => h) trivial HB.out HB.out.size (by simp) ?_; (case hr => first | (go_simp; done) | (go_simp; rfl)); intro vx w9 ho hb hg hat; (try replace FN := Aside0.mk (Kd.R_grown FN.out hg (fun _ _ => by simp))); (try replace FT := Aside0.mk (Kd.R_grown FT.out hg (fun _ _ => by simp))); (try replace FZ := Aside0.mk (blk_grown FZ.out hg (by simp))); replace HL := Aside0.mk (blk_grown HL.out hg (by simp)); replace HB := Aside0.mk hb; obtain ⟨A27, c27, e9⟩ := Kd.R_slice ho; subst e9; have FN := Aside0.mk ho; clear ho hb hg hat)
       refine hK.out _ _ ?_ ?_
       ·intro _; exact HL.out
       clear hK K
       try simp only [Act.put, s1_, s2_, s3_]
       refine AnyT.taken (i := 23) (v := ?v150) rfl (by kernel_rfl) (by kernel_rfl) (by kernel_rfl) (by kernel_rfl) (fun _ _ _ h => h) (Or.inl ⟨by rfl, ?y150⟩) ?s150 ?_
       case y150 =>
        intro wSW hSW
        (obtain ⟨k0, k1, k2, k3, k4, k5, k6, k7⟩ := keep8 hSW; go_simp)
        all_goals with_reducible rfl
       case s150 => exact HL.out
       try simp only [Act.put, s1_, s2_, s3_]
       refine AnyT.ready (rs := [24]) (by kernel_rfl) (by simp) (AllT.step rfl (fun K hK => ?b15124) AllT.nil)
       case b15124 =>
        (refine step_alloc (ob := .cells #[.slice none 0 0, .slice none 0 0] 48) (by rfl) ?hr ?_; (case hr => first | (go_simp; done) | (go_simp; rfl)); intro w9 gz hq hge hb; have FG : Aside0 (w.heap.size ≤ gz) := ⟨Nat.le_trans HB.out.size hge⟩; (try replace FN := Aside0.mk (Kd.R_below FN.out hb)); (try replace FT := Aside0.mk (Kd.R_below FT.out hb)); (try replace FZ := Aside0.mk (blk_below FZ.out hb)); replace HL := Aside0.mk (blk_below HL.out hb); replace HB := Aside0.mk (below_step HB.out hb); have FZ := Aside0.mk hq; clear hq hge hb)
        refine hK.out _ _ ?_ ?_
        ·intro _; exact HL.out
        clear hK K
        try simp only [Act.put, s1_, s2_, s3_]
        refine AnyT.ready (rs := [25]) (by kernel_rfl) (by simp) (AllT.step rfl (fun K hK => ?b15325) AllT.nil)
        case b15325 =>
         (have hs0 := (blk_cell FZ.out 0).trans rfl; have hs1 := (blk_cell FZ.out 1).trans rfl; have hf0 := blk_frozen FZ.out 0; have hf1 := blk_frozen FZ.out 1; go_simp)
         refine hK.out _ _ ?_ ?_
         ·exact past (by kernel_rfl)
         clear hK K
         try simp only [Act.put, s1_, s2_, s3_]
         refine AnyT.done (by kernel_rfl) ?_ _
         refine NoPanic.normal ?_
         (go_wp2; go_meet)
         (case rel => exact ⟨gz, .slice A27 6 c27, .slice A35 (l0_7.length + 2) c35, rfl, ⟨PE.of (vN' := .slice none 0 0) (vT' := .slice none 0 0) HL.out HB.out FN.out FT.out FZ.out FG.out⟩⟩)
      case b14824 =>
       (refine step_alloc (ob := .cells #[.slice none 0 0, .slice none 0 0] 48) (by rfl) ?hr ?_; (case hr => first | (go_simp; done) | (go_simp; rfl)); intro w9 gz hq hge hb; have FG : Aside0 (w.heap.size ≤ gz) := ⟨Nat.le_trans HB.out.size hge⟩; (try replace FN := Aside0.mk (Kd.R_below FN.out hb)); (try replace FT := Aside0.mk (Kd.R_below FT.out hb)); (try replace FZ := Aside0.mk (blk_below FZ.out hb)); replace HL := Aside0.mk (blk_below HL.out hb); replace HB := Aside0.mk (below_step HB.out hb); have FZ := Aside0.mk hq; clear hq hge hb)
       refine hK.out _ _ ?_ ?_
       ·intro _; exact HL.out
       clear hK K
       try simp only [Act.put, s1_, s2_, s3_]
       refine AnyT.ready (rs := [14]) (by kernel_rfl) (by simp) (AllT.step rfl (fun K hK => ?b15714) AllT.nil)
       case b15714 =>
        (refine Kd.R_lit_step (Kd.int .i64) (w0 := w) w.heap.size 3 (by rfl) (N := 27) (by rfl) (xs := [a0_0, a0_1, a0_2, a0_3, (oneI a0_6), (l0_7.length : Int)]) (inner := [.int .i64 a0_0, .int .i64 a0_1, .int .i64 a0_2, .int .i64 a0_3, .int .i64 (oneI a0_6), .int .i64 (l0_7.length : Int)]) (ok := fun _ => True) (okp := fun _ => True) ?hr (reps_ints _ _ _ [a0_0, a0_1, a0_2, a0_3, (oneI a0_6), (l0_7.length : Int)]) (fun _ h => h) trivial HB.out HB.out.size (by simp) ?_; (case hr => first | (go_simp; done) | (go_simp; rfl)); intro vx w9 ho hb hg hat; (try replace FN := Aside0.mk (Kd.R_grown FN.out hg (fun _ _ => by simp))); (try replace FT := Aside0.mk (Kd.R_grown FT.out hg (fun _ _ => by simp))); (try replace FZ := Aside0.mk (blk_grown FZ.out hg (by simp))); replace HL := Aside0.mk (blk_grown HL.out hg (by simp)); replace HB := Aside0.mk hb; obtain ⟨A27, c27, e9⟩ := Kd.R_slice ho; subst e9; have FN := Aside0.mk ho; clear ho hb hg hat)
        refine hK.out _ _ ?_ ?_
        ·intro _; exact HL.out
        clear hK K
        try simp only [Act.put, s1_, s2_, s3_]
        refine AnyT.taken (i := 23) (v := ?v159) rfl (by kernel_rfl) (by kernel_rfl) (by kernel_rfl) (by kernel_rfl) (fun _ _ _ h => h) (Or.inl ⟨by rfl, ?y159⟩) ?s159 ?_
        case y159 =>
         intro wSW hSW
         (obtain ⟨k0, k1, k2, k3, k4, k5, k6, k7⟩ := keep8 hSW; go_simp)
         all_goals with_reducible rfl
        case s159 => exact HL.out
        try simp only [Act.put, s1_, s2_, s3_]
        refine AnyT.ready (rs := [25]) (by kernel_rfl) (by simp) (AllT.step rfl (fun K hK => ?b16025) AllT.nil)
        case b16025 =>
         (have hs0 := (blk_cell FZ.out 0).trans rfl; have hs1 := (blk_cell FZ.out 1).trans rfl; have hf0 := blk_frozen FZ.out 0; have hf1 := blk_frozen FZ.out 1; go_simp)
         refine hK.out _ _ ?_ ?_
         ·exact past (by kernel_rfl)
         clear hK K
         try simp only [Act.put, s1_, s2_, s3_]
         refine AnyT.done (by kernel_rfl) ?_ _
         refine NoPanic.normal ?_
         (go_wp2; go_meet)
         (case rel => exact ⟨gz, .slice A27 6 c27, .slice A35 (l0_7.length + 2) c35, rfl, ⟨PE.of (vN' := .slice none 0 0) (vT' := .slice none 0 0) HL.out HB.out FN.out FT.out FZ.out FG.out⟩⟩)
     case b13024 =>
      (refine step_alloc (ob := .cells #[.slice none 0 0, .slice none 0 0] 48) (by rfl) ?hr ?_; (case hr => first | (go_simp; done) | (go_simp; rfl)); intro w9 gz hq hge hb; have FG : Aside0 (w.heap.size ≤ gz) := ⟨Nat.le_trans HB.out.size hge⟩; (try replace FN := Aside0.mk (Kd.R_below FN.out hb)); (try replace FT := Aside0.mk (Kd.R_below FT.out hb)); (try replace FZ := Aside0.mk (blk_below FZ.out hb)); replace HL := Aside0.mk (blk_below HL.out hb); replace HB := Aside0.mk (below_step HB.out hb); have FZ := Aside0.mk hq; clear hq hge hb)
      refine hK.out _ _ ?_ ?_
      ·intro _; exact HL.out
      clear hK K
      try simp only [Act.put, s1_, s2_, s3_]
      refine AnyT.ready (rs := [14, 22]) (by kernel_rfl) (by simp) (AllT.step rfl (fun K hK => ?b16414) (AllT.step rfl (fun K hK => ?b16422) AllT.nil))
      case b16414 =>
       (refine Kd.R_lit_step (Kd.int .i64) (w0 := w) w.heap.size 3 (by rfl) (N := 27) (by rfl) (xs := [a0_0, a0_1, a0_2, a0_3, (oneI a0_6), (l0_7.length : Int)]) (inner := [.int .i64 a0_0, .int .i64 a0_1, .int .i64 a0_2, .int .i64 a0_3, .int .i64 (oneI a0_6), .int .i64 (l0_7.length : Int)]) (ok := fun _ => True) (okp := fun _ => True) ?hr (reps_ints _ _ _ [a0_0, a0_1, a0_2, a0_3, (oneI a0_6), (l0_7.length : Int)]) (fun _ h => h) trivial HB.out HB.out.size (by simp) ?_; (case hr => first | (go_simp; done) | (go_simp; rfl)); intro vx w9 ho hb hg hat; (try replace FN := Aside0.mk (Kd.R_grown FN.out hg (fun _ _ => by simp))); (try replace FT := Aside0.mk (Kd.R_grown FT.out hg (fun _ _ => by simp))); (try replace FZ := Aside0.mk (blk_grown FZ.out hg (by simp))); replace HL := Aside0.mk (blk_grown HL.out hg (by simp)); replace HB := Aside0.mk hb; obtain ⟨A27, c27, e9⟩ := Kd.R_slice ho; subst e9; have FN := Aside0.mk ho; clear ho hb hg hat)
       refine hK.out _ _ ?_ ?_
       ·intro _; exact HL.out
       clear hK K
       try simp only [Act.put, s1_, s2_, s3_]
       refine AnyT.ready (rs := [22]) (by kernel_rfl) (by simp) (AllT.step rfl (fun K hK => ?b16622) AllT.nil)
       case b16622 =>
        (refine Kd.R_append_rows_step Kd.string (w0 := w) w.heap.size (by rfl) (.tmp 32) (.tmp 34) 22 9 (.string ⟨#[]⟩) 16 (by rfl) Try.underlying22 info9 rfl (by decide) (by omega) (.slice A32 2 c32) [a0_4, a0_5] l0_7 _ _ _ (fun _ => True) (fun _ => False) (by rfl) (by rfl) FT.out (Kd.C_below HR7.out HB.out) (fun _ _ h => h) (fun _ h => h.elim) (fun _ _ => trivial) HB.out HB.out.size (by simp only [List.length_cons, List.length_nil]; omega) ?_; intro vx w9 ho hb hg hat; (try replace FN := Aside0.mk (Kd.R_over FN.out FT.out (by decide) hg)); (try replace FZ := Aside0.mk (blk_grown FZ.out hg (Kd.R_ne FT.out FZ.out (by decide)))); replace HL := Aside0.mk (blk_grown HL.out hg (Kd.R_ne FT.out HL.out (by decide))); replace HB := Aside0.mk hb; obtain ⟨A35, c35, e9⟩ := Kd.R_slice ho; subst e9; replace FT := Aside0.mk ho; clear ho hb hg hat)
        refine hK.out _ _ ?_ ?_
        ·intro _; exact HL.out
        clear hK K
        try simp only [Act.put, s1_, s2_, s3_]
        refine AnyT.taken (i := 23) (v := ?v168) rfl (by kernel_rfl) (by kernel_rfl) (by kernel_rfl) (by kernel_rfl) (fun _ _ _ h => h) (Or.inl ⟨by rfl, ?y168⟩) ?s168 ?_
        case y168 =>
         intro wSW hSW
         (obtain ⟨k0, k1, k2, k3, k4, k5, k6, k7⟩ := keep8 hSW; go_simp)
         all_goals with_reducible rfl
        case s168 => exact HL.out
        try simp only [Act.put, s1_, s2_, s3_]
        refine AnyT.ready (rs := [25]) (by kernel_rfl) (by simp) (AllT.step rfl (fun K hK => ?b16925) AllT.nil)
        case b16925 =>
         (have hs0 := (blk_cell FZ.out 0).trans rfl; have hs1 := (blk_cell FZ.out 1).trans rfl; have hf0 := blk_frozen FZ.out 0; have hf1 := blk_frozen FZ.out 1; go_simp)
         refine hK.out _ _ ?_ ?_
         ·exact past (by kernel_rfl)
         clear hK K
         try simp only [Act.put, s1_, s2_, s3_]
         refine AnyT.done (by kernel_rfl) ?_ _
         refine NoPanic.normal ?_
         (go_wp2; go_meet)
         (case rel => exact ⟨gz, .slice A27 6 c27, .slice A35 (l0_7.length + 2) c35, rfl, ⟨PE.of (vN' := .slice none 0 0) (vT' := .slice none 0 0) HL.out HB.out FN.out FT.out FZ.out FG.out⟩⟩)
      case b16422 =>
       (refine Kd.R_append_rows_step Kd.string (w0 := w) w.heap.size (by rfl) (.tmp 32) (.tmp 34) 22 9 (.string ⟨#[]⟩) 16 (by rfl) Try.underlying22 info9 rfl (by decide) (by omega) (.slice A32 2 c32) [a0_4, a0_5] l0_7 _ _ _ (fun _ => True) (fun _ => False) (by rfl) (by rfl) FT.out (Kd.C_below HR7.out HB.out) (fun _ _ h => h) (fun _ h => h.elim) (fun _ _ => trivial) HB.out HB.out.size (by simp only [List.length_cons, List.length_nil]; omega) ?_; intro vx w9 ho hb hg hat; (try replace FN := Aside0.mk (Kd.R_over FN.out FT.out (by decide) hg)); (try replace FZ := Aside0.mk (blk_grown FZ.out hg (Kd.R_ne FT.out FZ.out (by decide)))); replace HL := Aside0.mk (blk_grown HL.out hg (Kd.R_ne FT.out HL.out (by decide))); replace HB := Aside0.mk hb; obtain ⟨A35, c35, e9⟩ := Kd.R_slice ho; subst e9; replace FT := Aside0.mk ho; clear ho hb hg hat)
       refine hK.out _ _ ?_ ?_
       ·intro _; exact HL.out
       clear hK K
       try simp only [Act.put, s1_, s2_, s3_]
       refine AnyT.ready (rs := [14]) (by kernel_rfl) (by simp) (AllT.step rfl (fun K hK => ?b17314) AllT.nil)
       case b17314 =>
        (refine Kd.R_lit_step (Kd.int .i64) (w0 := w) w.heap.size 3 (by rfl) (N := 27) (by rfl) (xs := [a0_0, a0_1, a0_2, a0_3, (oneI a0_6), (l0_7.length : Int)]) (inner := [.int .i64 a0_0, .int .i64 a0_1, .int .i64 a0_2, .int .i64 a0_3, .int .i64 (oneI a0_6), .int .i64 (l0_7.length : Int)]) (ok := fun _ => True) (okp := fun _ => True) ?hr (reps_ints _ _ _ [a0_0, a0_1, a0_2, a0_3, (oneI a0_6), (l0_7.length : Int)]) (fun _ h => h) trivial HB.out HB.out.size (by simp) ?_; (case hr => first | (go_simp; done) | (go_simp; rfl)); intro vx w9 ho hb hg hat; (try replace FN := Aside0.mk (Kd.R_grown FN.out hg (fun _ _ => by simp))); (try replace FT := Aside0.mk (Kd.R_grown FT.out hg (fun _ _ => by simp))); (try replace FZ := Aside0.mk (blk_grown FZ.out hg (by simp))); replace HL := Aside0.mk (blk_grown HL.out hg (by simp)); replace HB := Aside0.mk hb; obtain ⟨A27, c27, e9⟩ := Kd.R_slice ho; subst e9; have FN := Aside0.mk ho; clear ho hb hg hat)
        refine hK.out _ _ ?_ ?_
        ·intro _; exact HL.out
        clear hK K
        try simp only [Act.put, s1_, s2_, s3_]
        refine AnyT.taken (i := 23) (v := ?v175) rfl (by kernel_rfl) (by kernel_rfl) (by kernel_rfl) (by kernel_rfl) (fun _ _ _ h => h) (Or.inl ⟨by rfl, ?y175⟩) ?s175 ?_
        case y175 =>
         intro wSW hSW
         (obtain ⟨k0, k1, k2, k3, k4, k5, k6, k7⟩ := keep8 hSW; go_simp)
         all_goals with_reducible rfl
        case s175 => exact HL.out
        try simp only [Act.put, s1_, s2_, s3_]
        refine AnyT.ready (rs := [25]) (by kernel_rfl) (by simp) (AllT.step rfl (fun K hK => ?b17625) AllT.nil)
        case b17625 =>
         (have hs0 := (blk_cell FZ.out 0).trans rfl; have hs1 := (blk_cell FZ.out 1).trans rfl; have hf0 := blk_frozen FZ.out 0; have hf1 := blk_frozen FZ.out 1; go_simp)
         refine hK.out _ _ ?_ ?_
         ·exact past (by kernel_rfl)
         clear hK K
         try simp only [Act.put, s1_, s2_, s3_]
         refine AnyT.done (by kernel_rfl) ?_ _
         refine NoPanic.normal ?_
         (go_wp2; go_meet)
         (case rel => exact ⟨gz, .slice A27 6 c27, .slice A35 (l0_7.length + 2) c35, rfl, ⟨PE.of (vN' := .slice none 0 0) (vT' := .slice none 0 0) HL.out HB.out FN.out FT.out FZ.out FG.out⟩⟩)
    case b12824 =>
     (refine step_alloc (ob := .cells #[.slice none 0 0, .slice none 0 0] 48) (by rfl) ?hr ?_; (case hr => first | (go_simp; done) | (go_simp; rfl)); intro w9 gz hq hge hb; have FG : Aside0 (w.heap.size ≤ gz) := ⟨Nat.le_trans HB.out.size hge⟩; (try replace FN := Aside0.mk (Kd.R_below FN.out hb)); (try replace FT := Aside0.mk (Kd.R_below FT.out hb)); (try replace FZ := Aside0.mk (blk_below FZ.out hb)); replace HL := Aside0.mk (blk_below HL.out hb); replace HB := Aside0.mk (below_step HB.out hb); have FZ := Aside0.mk hq; clear hq hge hb)
     refine hK.out _ _ ?_ ?_
     ·intro _; exact HL.out
     clear hK K
     try simp only [Act.put, s1_, s2_, s3_]
     refine AnyT.ready (rs := [10]) (by kernel_rfl) (by simp) (AllT.step rfl (fun K hK => ?b18010) AllT.nil)
     case b18010 =>
      (refine goes_ Try.func20 (by kernel_rfl) rfl #[.bool a0_6] (by rfl) rfl rfl (by (try simp only [List.map_toArray, List.map_cons, List.map_nil]); first | done | rfl) ?_; refine (one_calls a0_6 _).mono ?_; rintro e w9 ⟨rfl, hb⟩; refine ⟨_, rfl, ?_⟩; (try replace FN := Aside0.mk (Kd.R_below FN.out hb)); (try replace FT := Aside0.mk (Kd.R_below FT.out hb)); (try replace FZ := Aside0.mk (blk_below FZ.out hb)); replace HL := Aside0.mk (blk_below HL.out hb); replace HB := Aside0.mk (below_step HB.out hb); clear hb)
      refine hK.out _ _ ?_ ?_
      ·intro _; exact HL.out
      clear hK K
      try simp only [Act.put, s1_, s2_, s3_]
      refine AnyT.ready (rs := [14, 22]) (by kernel_rfl) (by simp) (AllT.step rfl (fun K hK => ?b18214) (AllT.step rfl (fun K hK => ?b18222) AllT.nil))
      case b18214 =>
       (refine Kd.R_lit_step (Kd.int .i64) (w0 := w) w.heap.size 3 (by rfl) (N := 27) (by rfl) (xs := [a0_0, a0_1, a0_2, a0_3, (oneI a0_6), (l0_7.length : Int)]) (inner := [.int .i64 a0_0, .int .i64 a0_1, .int .i64 a0_2, .int .i64 a0_3, .int .i64 (oneI a0_6), .int .i64 (l0_7.length : Int)]) (ok := fun _ => True) (okp := fun _ => True) ?hr (reps_ints _ _ _ [a0_0, a0_1, a0_2, a0_3, (oneI a0_6), (l0_7.length : Int)]) (fun _ h => h) trivial HB.out HB.out.size (by simp) ?_; (case hr => first | (go_simp; done) | (go_simp; rfl)); intro vx w9 ho hb hg hat; (try replace FN := Aside0.mk (Kd.R_grown FN.out hg (fun _ _ => by simp))); (try replace FT := Aside0.mk (Kd.R_grown FT.out hg (fun _ _ => by simp))); (try replace FZ := Aside0.mk (blk_grown FZ.out hg (by simp))); replace HL := Aside0.mk (blk_grown HL.out hg (by simp)); replace HB := Aside0.mk hb; obtain ⟨A27, c27, e9⟩ := Kd.R_slice ho; subst e9; have FN := Aside0.mk ho; clear ho hb hg hat)
       refine hK.out _ _ ?_ ?_
       ·intro _; exact HL.out
       clear hK K
       try simp only [Act.put, s1_, s2_, s3_]
       refine AnyT.ready (rs := [22]) (by kernel_rfl) (by simp) (AllT.step rfl (fun K hK => ?b18422) AllT.nil)
       case b18422 =>
        (refine Kd.R_append_rows_step Kd.string (w0 := w) w.heap.size (by rfl) (.tmp 32) (.tmp 34) 22 9 (.string ⟨#[]⟩) 16 (by rfl) Try.underlying22 info9 rfl (by decide) (by omega) (.slice A32 2 c32) [a0_4, a0_5] l0_7 _ _ _ (fun _ => True) (fun _ => False) (by rfl) (by rfl) FT.out (Kd.C_below HR7.out HB.out) (fun _ _ h => h) (fun _ h => h.elim) (fun _ _ => trivial) HB.out HB.out.size (by simp only [List.length_cons, List.length_nil]; omega) ?_; intro vx w9 ho hb hg hat; (try replace FN := Aside0.mk (Kd.R_over FN.out FT.out (by decide) hg)); (try replace FZ := Aside0.mk (blk_grown FZ.out hg (Kd.R_ne FT.out FZ.out (by decide)))); replace HL := Aside0.mk (blk_grown HL.out hg (Kd.R_ne FT.out HL.out (by decide))); replace HB := Aside0.mk hb; obtain ⟨A35, c35, e9⟩ := Kd.R_slice ho; subst e9; replace FT := Aside0.mk ho; clear ho hb hg hat)
        refine hK.out _ _ ?_ ?_
        ·intro _; exact HL.out
        clear hK K
        try simp only [Act.put, s1_, s2_, s3_]
        refine AnyT.taken (i := 23) (v := ?v186) rfl (by kernel_rfl) (by kernel_rfl) (by kernel_rfl) (by kernel_rfl) (fun _ _ _ h => h) (Or.inl ⟨by rfl, ?y186⟩) ?s186 ?_
        case y186 =>
         intro wSW hSW
         (obtain ⟨k0, k1, k2, k3, k4, k5, k6, k7⟩ := keep8 hSW; go_simp)
         all_goals with_reducible rfl
        case s186 => exact HL.out
        try simp only [Act.put, s1_, s2_, s3_]
        refine AnyT.ready (rs := [25]) (by kernel_rfl) (by simp) (AllT.step rfl (fun K hK => ?b18725) AllT.nil)
        case b18725 =>
         (have hs0 := (blk_cell FZ.out 0).trans rfl; have hs1 := (blk_cell FZ.out 1).trans rfl; have hf0 := blk_frozen FZ.out 0; have hf1 := blk_frozen FZ.out 1; go_simp)
         refine hK.out _ _ ?_ ?_
         ·exact past (by kernel_rfl)
         clear hK K
         try simp only [Act.put, s1_, s2_, s3_]
         refine AnyT.done (by kernel_rfl) ?_ _
         refine NoPanic.normal ?_
         (go_wp2; go_meet)
         (case rel => exact ⟨gz, .slice A27 6 c27, .slice A35 (l0_7.length + 2) c35, rfl, ⟨PE.of (vN' := .slice none 0 0) (vT' := .slice none 0 0) HL.out HB.out FN.out FT.out FZ.out FG.out⟩⟩)
      case b18222 =>
       (refine Kd.R_append_rows_step Kd.string (w0 := w) w.heap.size (by rfl) (.tmp 32) (.tmp 34) 22 9 (.string ⟨#[]⟩) 16 (by rfl) Try.underlying22 info9 rfl (by decide) (by omega) (.slice A32 2 c32) [a0_4, a0_5] l0_7 _ _ _ (fun _ => True) (fun _ => False) (by rfl) (by rfl) FT.out (Kd.C_below HR7.out HB.out) (fun _ _ h => h) (fun _ h => h.elim) (fun _ _ => trivial) HB.out HB.out.size (by simp only [List.length_cons, List.length_nil]; omega) ?_; intro vx w9 ho hb hg hat; (try replace FN := Aside0.mk (Kd.R_over FN.out FT.out (by decide) hg)); (try replace FZ := Aside0.mk (blk_grown FZ.out hg (Kd.R_ne FT.out FZ.out (by decide)))); replace HL := Aside0.mk (blk_grown HL.out hg (Kd.R_ne FT.out HL.out (by decide))); replace HB := Aside0.mk hb; obtain ⟨A35, c35, e9⟩ := Kd.R_slice ho; subst e9; replace FT := Aside0.mk ho; clear ho hb hg hat)
       refine hK.out _ _ ?_ ?_
       ·intro _; exact HL.out
       clear hK K
       try simp only [Act.put, s1_, s2_, s3_]
       refine AnyT.ready (rs := [14]) (by kernel_rfl) (by simp) (AllT.step rfl (fun K hK => ?b19114) AllT.nil)
       case b19114 =>
        (refine Kd.R_lit_step (Kd.int .i64) (w0 := w) w.heap.size 3 (by rfl) (N := 27) (by rfl) (xs := [a0_0, a0_1, a0_2, a0_3, (oneI a0_6), (l0_7.length : Int)]) (inner := [.int .i64 a0_0, .int .i64 a0_1, .int .i64 a0_2, .int .i64 a0_3, .int .i64 (oneI a0_6), .int .i64 (l0_7.length : Int)]) (ok := fun _ => True) (okp := fun _ => True) ?hr (reps_ints _ _ _ [a0_0, a0_1, a0_2, a0_3, (oneI a0_6), (l0_7.length : Int)]) (fun _ h => h) trivial HB.out HB.out.size (by simp) ?_; (case hr => first | (go_simp; done) | (go_simp; rfl)); intro vx w9 ho hb hg hat; (try replace FN := Aside0.mk (Kd.R_grown FN.out hg (fun _ _ => by simp))); (try replace FT := Aside0.mk (Kd.R_grown FT.out hg (fun _ _ => by simp))); (try replace FZ := Aside0.mk (blk_grown FZ.out hg (by simp))); replace HL := Aside0.mk (blk_grown HL.out hg (by simp)); replace HB := Aside0.mk hb; obtain ⟨A27, c27, e9⟩ := Kd.R_slice ho; subst e9; have FN := Aside0.mk ho; clear ho hb hg hat)
        refine hK.out _ _ ?_ ?_
        ·intro _; exact HL.out
        clear hK K
        try simp only [Act.put, s1_, s2_, s3_]
        refine AnyT.taken (i := 23) (v := ?v193) rfl (by kernel_rfl) (by kernel_rfl) (by kernel_rfl) (by kernel_rfl) (fun _ _ _ h => h) (Or.inl ⟨by rfl, ?y193⟩) ?s193 ?_
        case y193 =>
         intro wSW hSW
         (obtain ⟨k0, k1, k2, k3, k4, k5, k6, k7⟩ := keep8 hSW; go_simp)
         all_goals with_reducible rfl
        case s193 => exact HL.out
        try simp only [Act.put, s1_, s2_, s3_]
        refine AnyT.ready (rs := [25]) (by kernel_rfl) (by simp) (AllT.step rfl (fun K hK => ?b19425) AllT.nil)
        case b19425 =>
         (have hs0 := (blk_cell FZ.out 0).trans rfl; have hs1 := (blk_cell FZ.out 1).trans rfl; have hf0 := blk_frozen FZ.out 0; have hf1 := blk_frozen FZ.out 1; go_simp)
         refine hK.out _ _ ?_ ?_
         ·exact past (by kernel_rfl)
         clear hK K
         try simp only [Act.put, s1_, s2_, s3_]
         refine AnyT.done (by kernel_rfl) ?_ _
         refine NoPanic.normal ?_
         (go_wp2; go_meet)
         (case rel => exact ⟨gz, .slice A27 6 c27, .slice A35 (l0_7.length + 2) c35, rfl, ⟨PE.of (vN' := .slice none 0 0) (vT' := .slice none 0 0) HL.out HB.out FN.out FT.out FZ.out FG.out⟩⟩)
   case b2024 =>
    (refine step_alloc (ob := .cells #[.slice none 0 0, .slice none 0 0] 48) (by rfl) ?hr ?_; (case hr => first | (go_simp; done) | (go_simp; rfl)); intro w9 gz hq hge hb; have FG : Aside0 (w.heap.size ≤ gz) := ⟨Nat.le_trans HB.out.size hge⟩; (try replace FN := Aside0.mk (Kd.R_below FN.out hb)); (try replace FT := Aside0.mk (Kd.R_below FT.out hb)); (try replace FZ := Aside0.mk (blk_below FZ.out hb)); replace HL := Aside0.mk (blk_below HL.out hb); replace HB := Aside0.mk (below_step HB.out hb); have FZ := Aside0.mk hq; clear hq hge hb)
    refine hK.out _ _ ?_ ?_
    ·intro _; exact HL.out
    clear hK K
    try simp only [Act.put, s1_, s2_, s3_]
    refine AnyT.ready (rs := [10, 19]) (by kernel_rfl) (by simp) (AllT.step rfl (fun K hK => ?b19810) (AllT.step rfl (fun K hK => ?b19819) AllT.nil))
    case b19810 =>
     (refine goes_ Try.func20 (by kernel_rfl) rfl #[.bool a0_6] (by rfl) rfl rfl (by (try simp only [List.map_toArray, List.map_cons, List.map_nil]); first | done | rfl) ?_; refine (one_calls a0_6 _).mono ?_; rintro e w9 ⟨rfl, hb⟩; refine ⟨_, rfl, ?_⟩; (try replace FN := Aside0.mk (Kd.R_below FN.out hb)); (try replace FT := Aside0.mk (Kd.R_below FT.out hb)); (try replace FZ := Aside0.mk (blk_below FZ.out hb)); replace HL := Aside0.mk (blk_below HL.out hb); replace HB := Aside0.mk (below_step HB.out hb); clear hb)
     refine hK.out _ _ ?_ ?_
     ·intro _; exact HL.out
     clear hK K
     try simp only [Act.put, s1_, s2_, s3_]
     refine AnyT.ready (rs := [14, 19]) (by kernel_rfl) (by simp) (AllT.step rfl (fun K hK => ?b20014) (AllT.step rfl (fun K hK => ?b20019) AllT.nil))
     case b20014 =>
      (refine Kd.R_lit_step (Kd.int .i64) (w0 := w) w.heap.size 3 (by rfl) (N := 27) (by rfl) (xs := [a0_0, a0_1, a0_2, a0_3, (oneI a0_6), (l0_7.length : Int)]) (inner := [.int .i64 a0_0, .int .i64 a0_1, .int .i64 a0_2, .int .i64 a0_3, .int .i64 (oneI a0_6), .int .i64 (l0_7.length : Int)]) (ok := fun _ => True) (okp := fun _ => True) ?hr (reps_ints _ _ _ [a0_0, a0_1, a0_2, a0_3, (oneI a0_6), (l0_7.length : Int)]) (fun _ h => h) trivial HB.out HB.out.size (by simp) ?_; (case hr => first | (go_simp; done) | (go_simp; rfl)); intro vx w9 ho hb hg hat; (try replace FN := Aside0.mk (Kd.R_grown FN.out hg (fun _ _ => by simp))); (try replace FT := Aside0.mk (Kd.R_grown FT.out hg (fun _ _ => by simp))); (try replace FZ := Aside0.mk (blk_grown FZ.out hg (by simp))); replace HL := Aside0.mk (blk_grown HL.out hg (by simp)); replace HB := Aside0.mk hb; obtain ⟨A27, c27, e9⟩ := Kd.R_slice ho; subst e9; have FN := Aside0.mk ho; clear ho hb hg hat)
      refine hK.out _ _ ?_ ?_
      ·intro _; exact HL.out
      clear hK K
      try simp only [Act.put, s1_, s2_, s3_]
      refine AnyT.ready (rs := [19]) (by kernel_rfl) (by simp) (AllT.step rfl (fun K hK => ?b20219) AllT.nil)
      case b20219 =>
       (refine Kd.R_lit_step Kd.string (w0 := w) w.heap.size 9 (by rfl) (N := 32) (by rfl) (xs := [a0_4, a0_5]) (inner := [.string a0_4, .string a0_5]) (ok := fun _ => True) (okp := fun _ => True) ?hr (reps_texts _ _ _ [a0_4, a0_5]) (fun _ h => h) trivial HB.out HB.out.size (by simp) ?_; (case hr => first | (go_simp; done) | (go_simp; rfl)); intro vx w9 ho hb hg hat; (try replace FN := Aside0.mk (Kd.R_grown FN.out hg (fun _ _ => by simp))); (try replace FT := Aside0.mk (Kd.R_grown FT.out hg (fun _ _ => by simp))); (try replace FZ := Aside0.mk (blk_grown FZ.out hg (by simp))); replace HL := Aside0.mk (blk_grown HL.out hg (by simp)); replace HB := Aside0.mk hb; obtain ⟨A32, c32, e9⟩ := Kd.R_slice ho; subst e9; have FT := Aside0.mk ho; clear ho hb hg hat)
       refine hK.out _ _ ?_ ?_
       ·intro _; exact HL.out
       clear hK K
       try simp only [Act.put, s1_, s2_, s3_]
       refine AnyT.ready (rs := [22]) (by kernel_rfl) (by simp) (AllT.step rfl (fun K hK => ?b20422) AllT.nil)
       case b20422 =>
        (refine Kd.R_append_rows_step Kd.string (w0 := w) w.heap.size (by rfl) (.tmp 32) (.tmp 34) 22 9 (.string ⟨#[]⟩) 16 (by rfl) Try.underlying22 info9 rfl (by decide) (by omega) (.slice A32 2 c32) [a0_4, a0_5] l0_7 _ _ _ (fun _ => True) (fun _ => False) (by rfl) (by rfl) FT.out (Kd.C_below HR7.out HB.out) (fun _ _ h => h) (fun _ h => h.elim) (fun _ _ => trivial) HB.out HB.out.size (by simp only [List.length_cons, List.length_nil]; omega) ?_; intro vx w9 ho hb hg hat; (try replace FN := Aside0.mk (Kd.R_over FN.out FT.out (by decide) hg)); (try replace FZ := Aside0.mk (blk_grown FZ.out hg (Kd.R_ne FT.out FZ.out (by decide)))); replace HL := Aside0.mk (blk_grown HL.out hg (Kd.R_ne FT.out HL.out (by decide))); replace HB := Aside0.mk hb; obtain ⟨A35, c35, e9⟩ := Kd.R_slice ho; subst e9; replace FT := Aside0.mk ho; clear ho hb hg hat)
        refine hK.out _ _ ?_ ?_
        ·intro _; exact HL.out
        clear hK K
        try simp only [Act.put, s1_, s2_, s3_]
        refine AnyT.taken (i := 23) (v := ?v206) rfl (by kernel_rfl) (by kernel_rfl) (by kernel_rfl) (by kernel_rfl) (fun _ _ _ h => h) (Or.inl ⟨by rfl, ?y206⟩) ?s206 ?_
        case y206 =>
         intro wSW hSW
         (obtain ⟨k0, k1, k2, k3, k4, k5, k6, k7⟩ := keep8 hSW; go_simp)
         all_goals with_reducible rfl
        case s206 => exact HL.out
        try simp only [Act.put, s1_, s2_, s3_]
        refine AnyT.ready (rs := [25]) (by kernel_rfl) (by simp) (AllT.step rfl (fun K hK => ?b20725) AllT.nil)
        case b20725 =>
         (have hs0 := (blk_cell FZ.out 0).trans rfl; have hs1 := (blk_cell FZ.out 1).trans rfl; have hf0 := blk_frozen FZ.out 0; have hf1 := blk_frozen FZ.out 1; go_simp)
         refine hK.out _ _ ?_ ?_
         ·exact past (by kernel_rfl)
         clear hK K
         try simp only [Act.put, s1_, s2_, s3_]
         refine AnyT.done (by kernel_rfl) ?_ _
         refine NoPanic.normal ?_
         (go_wp2; go_meet)
         (case rel => exact ⟨gz, .slice A27 6 c27, .slice A35 (l0_7.length + 2) c35, rfl, ⟨PE.of (vN' := .slice none 0 0) (vT' := .slice none 0 0) HL.out HB.out FN.out FT.out FZ.out FG.out⟩⟩)
     case b20019 =>
      (refine Kd.R_lit_step Kd.string (w0 := w) w.heap.size 9 (by rfl) (N := 32) (by rfl) (xs := [a0_4, a0_5]) (inner := [.string a0_4, .string a0_5]) (ok := fun _ => True) (okp := fun _ => True) ?hr (reps_texts _ _ _ [a0_4, a0_5]) (fun _ h => h) trivial HB.out HB.out.size (by simp) ?_; (case hr => first | (go_simp; done) | (go_simp; rfl)); intro vx w9 ho hb hg hat; (try replace FN := Aside0.mk (Kd.R_grown FN.out hg (fun _ _ => by simp))); (try replace FT := Aside0.mk (Kd.R_grown FT.out hg (fun _ _ => by simp))); (try replace FZ := Aside0.mk (blk_grown FZ.out hg (by simp))); replace HL := Aside0.mk (blk_grown HL.out hg (by simp)); replace HB := Aside0.mk hb; obtain ⟨A32, c32, e9⟩ := Kd.R_slice ho; subst e9; have FT := Aside0.mk ho; clear ho hb hg hat)
      refine hK.out _ _ ?_ ?_
      ·intro _; exact HL.out
      clear hK K
      try simp only [Act.put, s1_, s2_, s3_]
      refine AnyT.ready (rs := [14, 22]) (by kernel_rfl) (by simp) (AllT.step rfl (fun K hK => ?b21114) (AllT.step rfl (fun K hK => ?b21122) AllT.nil))
      case b21114 =>
       (refine Kd.R_lit_step (Kd.int .i64) (w0 := w) w.heap.size 3 (by rfl) (N := 27) (by rfl) (xs := [a0_0, a0_1, a0_2, a0_3, (oneI a0_6), (l0_7.length : Int)]) (inner := [.int .i64 a0_0, .int .i64 a0_1, .int .i64 a0_2, .int .i64 a0_3, .int .i64 (oneI a0_6), .int .i64 (l0_7.length : Int)]) (ok := fun _ => True) (okp := fun _ => True) ?hr (reps_ints _ _ _ [a0_0, a0_1, a0_2, a0_3, (oneI a0_6), (l0_7.length : Int)]) (fun _ h => h) trivial HB.out HB.out.size (by simp) ?_; (case hr => first | (go_simp; done) | (go_simp; rfl)); intro vx w9 ho hb hg hat; (try replace FN := Aside0.mk (Kd.R_grown FN.out hg (fun _ _ => by simp))); (try replace FT := Aside0.mk (Kd.R_grown FT.out hg (fun _ _ => by simp))); (try replace FZ := Aside0.mk (blk_grown FZ.out hg (by simp))); replace HL := Aside0.mk (blk_grown HL.out hg (by simp)); replace HB := Aside0.mk hb; obtain ⟨A27, c27, e9⟩ := Kd.R_slice ho; subst e9; have FN := Aside0.mk ho; clear ho hb hg hat)
       refine hK.out _ _ ?_ ?_
       ·intro _; exact HL.out
       clear hK K
       try simp only [Act.put, s1_, s2_, s3_]
       refine AnyT.ready (rs := [22]) (by kernel_rfl) (by simp) (AllT.step rfl (fun K hK => ?b21322) AllT.nil)
       case b21322 =>
        (refine Kd.R_append_rows_step Kd.string (w0 := w) w.heap.size (by rfl) (.tmp 32) (.tmp 34) 22 9 (.string ⟨#[]⟩) 16 (by rfl) Try.underlying22 info9 rfl (by decide) (by omega) (.slice A32 2 c32) [a0_4, a0_5] l0_7 _ _ _ (fun _ => True) (fun _ => False) (by rfl) (by rfl) FT.out (Kd.C_below HR7.out HB.out) (fun _ _ h => h) (fun _ h => h.elim) (fun _ _ => trivial) HB.out HB.out.size (by simp only [List.length_cons, List.length_nil]; omega) ?_; intro vx w9 ho hb hg hat; (try replace FN := Aside0.mk (Kd.R_over FN.out FT.out (by decide) hg)); (try replace FZ := Aside0.mk (blk_grown FZ.out hg (Kd.R_ne FT.out FZ.out (by decide)))); replace HL := Aside0.mk (blk_grown HL.out hg (Kd.R_ne FT.out HL.out (by decide))); replace HB := Aside0.mk hb; obtain ⟨A35, c35, e9⟩ := Kd.R_slice ho; subst e9; replace FT := Aside0.mk ho; clear ho hb hg hat)
        refine hK.out _ _ ?_ ?_
        ·intro _; exact HL.out
        clear hK K
        try simp only [Act.put, s1_, s2_, s3_]
        refine AnyT.taken (i := 23) (v := ?v215) rfl (by kernel_rfl) (by kernel_rfl) (by kernel_rfl) (by kernel_rfl) (fun _ _ _ h => h) (Or.inl ⟨by rfl, ?y215⟩) ?s215 ?_
        case y215 =>
         intro wSW hSW
         (obtain ⟨k0, k1, k2, k3, k4, k5, k6, k7⟩ := keep8 hSW; go_simp)
         all_goals with_reducible rfl
        case s215 => exact HL.out
        try simp only [Act.put, s1_, s2_, s3_]
        refine AnyT.ready (rs := [25]) (by kernel_rfl) (by simp) (AllT.step rfl (fun K hK => ?b21625) AllT.nil)
        case b21625 =>
         (have hs0 := (blk_cell FZ.out 0).trans rfl; have hs1 := (blk_cell FZ.out 1).trans rfl; have hf0 := blk_frozen FZ.out 0; have hf1 := blk_frozen FZ.out 1; go_simp)
         refine hK.out _ _ ?_ ?_
         ·exact past (by kernel_rfl)
         clear hK K
         try simp only [Act.put, s1_, s2_, s3_]
         refine AnyT.done (by kernel_rfl) ?_ _
         refine NoPanic.normal ?_
         (go_wp2; go_meet)
         (case rel => exact ⟨gz, .slice A27 6 c27, .slice A35 (l0_7.length + 2) c35, rfl, ⟨PE.of (vN' := .slice none 0 0) (vT' := .slice none 0 0) HL.out HB.out FN.out FT.out FZ.out FG.out⟩⟩)
      case b21122 =>
       (refine Kd.R_append_rows_step Kd.string (w0 := w) w.heap.size (by rfl) (.tmp 32) (.tmp 34) 22 9 (.string ⟨#[]⟩) 16 (by rfl) Try.underlying22 info9 rfl (by decide) (by omega) (.slice A32 2 c32) [a0_4, a0_5] l0_7 _ _ _ (fun _ => True) (fun _ => False) (by rfl) (by rfl) FT.out (Kd.C_below HR7.out HB.out) (fun _ _ h => h) (fun _ h => h.elim) (fun _ _ => trivial) HB.out HB.out.size (by simp only [List.length_cons, List.length_nil]; omega) ?_; intro vx w9 ho hb hg hat; (try replace FN := Aside0.mk (Kd.R_over FN.out FT.out (by decide) hg)); (try replace FZ := Aside0.mk (blk_grown FZ.out hg (Kd.R_ne FT.out FZ.out (by decide)))); replace HL := Aside0.mk (blk_grown HL.out hg (Kd.R_ne FT.out HL.out (by decide))); replace HB := Aside0.mk hb; obtain ⟨A35, c35, e9⟩ := Kd.R_slice ho; subst e9; replace FT := Aside0.mk ho; clear ho hb hg hat)
       refine hK.out _ _ ?_ ?_
       ·intro _; exact HL.out
       clear hK K
       try simp only [Act.put, s1_, s2_, s3_]
       refine AnyT.ready (rs := [14]) (by kernel_rfl) (by simp) (AllT.step rfl (fun K hK => ?b22014) AllT.nil)
       case b22014 =>
        (refine Kd.R_lit_step (Kd.int .i64) (w0 := w) w.heap.size 3 (by rfl) (N := 27) (by rfl) (xs := [a0_0, a0_1, a0_2, a0_3, (oneI a0_6), (l0_7.length : Int)]) (inner := [.int .i64 a0_0, .int .i64 a0_1, .int .i64 a0_2, .int .i64 a0_3, .int .i64 (oneI a0_6), .int .i64 (l0_7.length : Int)]) (ok := fun _ => True) (okp := fun _ => True) ?hr (reps_ints _ _ _ [a0_0, a0_1, a0_2, a0_3, (oneI a0_6), (l0_7.length : Int)]) (fun _ h => h) trivial HB.out HB.out.size (by simp) ?_; (case hr => first | (go_simp; done) | (go_simp; rfl)); intro vx w9 ho hb hg hat; (try replace FN := Aside0.mk (Kd.R_grown FN.out hg (fun _ _ => by simp))); (try replace FT := Aside0.mk (Kd.R_grown FT.out hg (fun _ _ => by simp))); (try replace FZ := Aside0.mk (blk_grown FZ.out hg (by simp))); replace HL := Aside0.mk (blk_grown HL.out hg (by simp)); replace HB := Aside0.mk hb; obtain ⟨A27, c27, e9⟩ := Kd.R_slice ho; subst e9; have FN := Aside0.mk ho; clear ho hb hg hat)
        refine hK.out _ _ ?_ ?_
        ·intro _; exact HL.out
        clear hK K
        try simp only [Act.put, s1_, s2_, s3_]
        refine AnyT.taken (i := 23) (v := ?v222) rfl (by kernel_rfl) (by kernel_rfl) (by kernel_rfl) (by kernel_rfl) (fun _ _ _ h => h) (Or.inl ⟨by rfl, ?y222⟩) ?s222 ?_
        case y222 =>
         intro wSW hSW
         (obtain ⟨k0, k1, k2, k3, k4, k5, k6, k7⟩ := keep8 hSW; go_simp)
         all_goals with_reducible rfl
        case s222 => exact HL.out
        try simp only [Act.put, s1_, s2_, s3_]
        refine AnyT.ready (rs := [25]) (by kernel_rfl) (by simp) (AllT.step rfl (fun K hK => ?b22325) AllT.nil)
        case b22325 =>
         (have hs0 := (blk_cell FZ.out 0).trans rfl; have hs1 := (blk_cell FZ.out 1).trans rfl; have hf0 := blk_frozen FZ.out 0; have hf1 := blk_frozen FZ.out 1; go_simp)
         refine hK.out _ _ ?_ ?_
         ·exact past (by kernel_rfl)
         clear hK K
         try simp only [Act.put, s1_, s2_, s3_]
         refine AnyT.done (by kernel_rfl) ?_ _
         refine NoPanic.normal ?_
         (go_wp2; go_meet)
         (case rel => exact ⟨gz, .slice A27 6 c27, .slice A35 (l0_7.length + 2) c35, rfl, ⟨PE.of (vN' := .slice none 0 0) (vT' := .slice none 0 0) HL.out HB.out FN.out FT.out FZ.out FG.out⟩⟩)
    case b19819 =>
     (refine Kd.R_lit_step Kd.string (w0 := w) w.heap.size 9 (by rfl) (N := 32) (by rfl) (xs := [a0_4, a0_5]) (inner := [.string a0_4, .string a0_5]) (ok := fun _ => True) (okp := fun _ => True) ?hr (reps_texts _ _ _ [a0_4, a0_5]) (fun _ h => h) trivial HB.out HB.out.size (by simp) ?_; (case hr => first | (go_simp; done) | (go_simp; rfl)); intro vx w9 ho hb hg hat; (try replace FN := Aside0.mk (Kd.R_grown FN.out hg (fun _ _ => by simp))); (try replace FT := Aside0.mk (Kd.R_grown FT.out hg (fun _ _ => by simp))); (try replace FZ := Aside0.mk (blk_grown FZ.out hg (by simp))); replace HL := Aside0.mk (blk_grown HL.out hg (by simp)); replace HB := Aside0.mk hb; obtain ⟨A32, c32, e9⟩ := Kd.R_slice ho; subst e9; have FT := Aside0.mk ho; clear ho hb hg hat)
     refine hK.out _ _ ?_ ?_
     ·intro _; exact HL.out
     clear hK K
     try simp only [Act.put, s1_, s2_, s3_]
     refine AnyT.ready (rs := [10]) (by kernel_rfl) (by simp) (AllT.step rfl (fun K hK => ?b22710) AllT.nil)
     case b22710 =>
      (refine goes_ Try.func20 (by kernel_rfl) rfl #[.bool a0_6] (by rfl) rfl rfl (by (try simp only [List.map_toArray, List.map_cons, List.map_nil]); first | done | rfl) ?_; refine (one_calls a0_6 _).mono ?_; rintro e w9 ⟨rfl, hb⟩; refine ⟨_, rfl, ?_⟩; (try replace FN := Aside0.mk (Kd.R_below FN.out hb)); (try replace FT := Aside0.mk (Kd.R_below FT.out hb)); (try replace FZ := Aside0.mk (blk_below FZ.out hb)); replace HL := Aside0.mk (blk_below HL.out hb); replace HB := Aside0.mk (below_step HB.out hb); clear hb)
      refine hK.out _ _ ?_ ?_
      ·intro _; exact HL.out
      clear hK K
      try simp only [Act.put, s1_, s2_, s3_]
      refine AnyT.ready (rs := [14, 22]) (by kernel_rfl) (by simp) (AllT.step rfl (fun K hK => ?b22914) (AllT.step rfl (fun K hK => ?b22922) AllT.nil))
      case b22914 =>
       (refine Kd.R_lit_step (Kd.int .i64) (w0 := w) w.heap.size 3 (by rfl) (N := 27) (by rfl) (xs := [a0_0, a0_1, a0_2, a0_3, (oneI a0_6), (l0_7.length : Int)]) (inner := [.int .i64 a0_0, .int .i64 a0_1, .int .i64 a0_2, .int .i64 a0_3, .int .i64 (oneI a0_6), .int .i64 (l0_7.length : Int)]) (ok := fun _ => True) (okp := fun _ => True) ?hr (reps_ints _ _ _ [a0_0, a0_1, a0_2, a0_3, (oneI a0_6), (l0_7.length : Int)]) (fun _ h => h) trivial HB.out HB.out.size (by simp) ?_; (case hr => first | (go_simp; done) | (go_simp; rfl)); intro vx w9 ho hb hg hat; (try replace FN := Aside0.mk (Kd.R_grown FN.out hg (fun _ _ => by simp))); (try replace FT := Aside0.mk (Kd.R_grown FT.out hg (fun _ _ => by simp))); (try replace FZ := Aside0.mk (blk_grown FZ.out hg (by simp))); replace HL := Aside0.mk (blk_grown HL.out hg (by simp)); replace HB := Aside0.mk hb; obtain ⟨A27, c27, e9⟩ := Kd.R_slice ho; subst e9; have FN := Aside0.mk ho; clear ho hb hg hat)
       refine hK.out _ _ ?_ ?_
       ·intro _; exact HL.out
       clear hK K
       try simp only [Act.put, s1_, s2_, s3_]
       refine AnyT.ready (rs := [22]) (by kernel_rfl) (by simp) (AllT.step rfl (fun K hK => ?b23122) AllT.nil)
       case b23122 =>
        (refine Kd.R_append_rows_step Kd.string (w0 := w) w.heap.size (by rfl) (.tmp 32) (.tmp 34) 22 9 (.string ⟨#[]⟩) 16 (by rfl) Try.underlying22 info9 rfl (by decide) (by omega) (.slice A32 2 c32) [a0_4, a0_5] l0_7 _ _ _ (fun _ => True) (fun _ => False) (by rfl) (by rfl) FT.out (Kd.C_below HR7.out HB.out) (fun _ _ h => h) (fun _ h => h.elim) (fun _ _ => trivial) HB.out HB.out.size (by simp only [List.length_cons, List.length_nil]; omega) ?_; intro vx w9 ho hb hg hat; (try replace FN := Aside0.mk (Kd.R_over FN.out FT.out (by decide) hg)); (try replace FZ := Aside0.mk (blk_grown FZ.out hg (Kd.R_ne FT.out FZ.out (by decide)))); replace HL := Aside0.mk (blk_grown HL.out hg (Kd.R_ne FT.out HL.out (by decide))); replace HB := Aside0.mk hb; obtain ⟨A35, c35, e9⟩ := Kd.R_slice ho; subst e9; replace FT := Aside0.mk ho; clear ho hb hg hat)
        refine hK.out _ _ ?_ ?_
        ·intro _; exact HL.out
        clear hK K
        try simp only [Act.put, s1_, s2_, s3_]
        refine AnyT.taken (i := 23) (v := ?v233) rfl (by kernel_rfl) (by kernel_rfl) (by kernel_rfl) (by kernel_rfl) (fun _ _ _ h => h) (Or.inl ⟨by rfl, ?y233⟩) ?s233 ?_
        case y233 =>
         intro wSW hSW
         (obtain ⟨k0, k1, k2, k3, k4, k5, k6, k7⟩ := keep8 hSW; go_simp)
         all_goals with_reducible rfl
        case s233 => exact HL.out
        try simp only [Act.put, s1_, s2_, s3_]
        refine AnyT.ready (rs := [25]) (by kernel_rfl) (by simp) (AllT.step rfl (fun K hK => ?b23425) AllT.nil)
        case b23425 =>
         (have hs0 := (blk_cell FZ.out 0).trans rfl; have hs1 := (blk_cell FZ.out 1).trans rfl; have hf0 := blk_frozen FZ.out 0; have hf1 := blk_frozen FZ.out 1; go_simp)
         refine hK.out _ _ ?_ ?_
         ·exact past (by kernel_rfl)
         clear hK K
         try simp only [Act.put, s1_, s2_, s3_]
         refine AnyT.done (by kernel_rfl) ?_ _
         refine NoPanic.normal ?_
         (go_wp2; go_meet)
         (case rel => exact ⟨gz, .slice A27 6 c27, .slice A35 (l0_7.length + 2) c35, rfl, ⟨PE.of (vN' := .slice none 0 0) (vT' := .slice none 0 0) HL.out HB.out FN.out FT.out FZ.out FG.out⟩⟩)
      case b22922 =>
       (refine Kd.R_append_rows_step Kd.string (w0 := w) w.heap.size (by rfl) (.tmp 32) (.tmp 34) 22 9 (.string ⟨#[]⟩) 16 (by rfl) Try.underlying22 info9 rfl (by decide) (by omega) (.slice A32 2 c32) [a0_4, a0_5] l0_7 _ _ _ (fun _ => True) (fun _ => False) (by rfl) (by rfl) FT.out (Kd.C_below HR7.out HB.out) (fun _ _ h => h) (fun _ h => h.elim) (fun _ _ => trivial) HB.out HB.out.size (by simp only [List.length_cons, List.length_nil]; omega) ?_; intro vx w9 ho hb hg hat; (try replace FN := Aside0.mk (Kd.R_over FN.out FT.out (by decide) hg)); (try replace FZ := Aside0.mk (blk_grown FZ.out hg (Kd.R_ne FT.out FZ.out (by decide)))); replace HL := Aside0.mk (blk_grown HL.out hg (Kd.R_ne FT.out HL.out (by decide))); replace HB := Aside0.mk hb; obtain ⟨A35, c35, e9⟩ := Kd.R_slice ho; subst e9; replace FT := Aside0.mk ho; clear ho hb hg hat)
       refine hK.out _ _ ?_ ?_
       ·intro _; exact HL.out
       clear hK K
       try simp only [Act.put, s1_, s2_, s3_]
       refine AnyT.ready (rs := [14]) (by kernel_rfl) (by simp) (AllT.step rfl (fun K hK => ?b23814) AllT.nil)
       case b23814 =>
        (refine Kd.R_lit_step (Kd.int .i64) (w0 := w) w.heap.size 3 (by rfl) (N := 27) (by rfl) (xs := [a0_0, a0_1, a0_2, a0_3, (oneI a0_6), (l0_7.length : Int)]) (inner := [.int .i64 a0_0, .int .i64 a0_1, .int .i64 a0_2, .int .i64 a0_3, .int .i64 (oneI a0_6), .int .i64 (l0_7.length : Int)]) (ok := fun _ => True) (okp := fun _ => True) ?hr (reps_ints _ _ _ [a0_0, a0_1, a0_2, a0_3, (oneI a0_6), (l0_7.length : Int)]) (fun _ h => h) trivial HB.out HB.out.size (by simp) ?_; (case hr => first | (go_simp; done) | (go_simp; rfl)); intro vx w9 ho hb hg hat; (try replace FN := Aside0.mk (Kd.R_grown FN.out hg (fun _ _ => by simp))); (try replace FT := Aside0.mk (Kd.R_grown FT.out hg (fun _ _ => by simp))); (try replace FZ := Aside0.mk (blk_grown FZ.out hg (by simp))); replace HL := Aside0.mk (blk_grown HL.out hg (by simp)); replace HB := Aside0.mk hb; obtain ⟨A27, c27, e9⟩ := Kd.R_slice ho; subst e9; have FN := Aside0.mk ho; clear ho hb hg hat)
        refine hK.out _ _ ?_ ?_
        ·intro _; exact HL.out
        clear hK K
        try simp only [Act.put, s1_, s2_, s3_]
        refine AnyT.taken (i := 23) (v := ?v240) rfl (by kernel_rfl) (by kernel_rfl) (by kernel_rfl) (by kernel_rfl) (fun _ _ _ h => h) (Or.inl ⟨by rfl, ?y240⟩) ?s240 ?_
        case y240 =>
         intro wSW hSW
         (obtain ⟨k0, k1, k2, k3, k4, k5, k6, k7⟩ := keep8 hSW; go_simp)
         all_goals with_reducible rfl
        case s240 => exact HL.out
        try simp only [Act.put, s1_, s2_, s3_]
        refine AnyT.ready (rs := [25]) (by kernel_rfl) (by simp) (AllT.step rfl (fun K hK => ?b24125) AllT.nil)
        case b24125 =>
         (have hs0 := (blk_cell FZ.out 0).trans rfl; have hs1 := (blk_cell FZ.out 1).trans rfl; have hf0 := blk_frozen FZ.out 0; have hf1 := blk_frozen FZ.out 1; go_simp)
         refine hK.out _ _ ?_ ?_
         ·exact past (by kernel_rfl)
         clear hK K
         try simp only [Act.put, s1_, s2_, s3_]
         refine AnyT.done (by kernel_rfl) ?_ _
         refine NoPanic.normal ?_
         (go_wp2; go_meet)
         (case rel => exact ⟨gz, .slice A27 6 c27, .slice A35 (l0_7.length + 2) c35, rfl, ⟨PE.of (vN' := .slice none 0 0) (vT' := .slice none 0 0) HL.out HB.out FN.out FT.out FZ.out FG.out⟩⟩)
  case rest =>
   obtain ⟨gp, vN0, vT0, rfl, HP0⟩ := hcut
   clear HL HB HB2 BL2
   have hcz_8 : wc.cell? ⟨gl, 8, none⟩ = some (.slice A0_8 l0_8.length c0_8) := (blk_cell HP0.out.bl 8).trans rfl
   go_wp2
   go_loopw [40] (fun v40 wr => ∃ (i : Nat) (x : Int) (xs : List Int) (ts : List ByteArray) (vN vT : Value), v40 = .int .i64 x ∧ Aside0 (x = (i : Int)) ∧ Aside0 (i ≤ l0_8.length) ∧ Aside0 (xs = [a0_0, a0_1, a0_2, a0_3, (oneI a0_6), (l0_7.length : Int)] ++ flagsOf (l0_8.take i)) ∧ Aside0 (ts = ([a0_4, a0_5] ++ l0_7) ++ pairsOf (l0_8.take i)) ∧ Aside0 (PE w wr gl #[.int .i64 a0_0, .int .i64 a0_1, .int .i64 a0_2, .int .i64 a0_3, .string a0_4, .string a0_5, .bool a0_6, .slice A0_7 l0_7.length c0_7, .slice A0_8 l0_8.length c0_8] gp xs ts vN vT)) (fun v40 _ => l0_8.length - (intOf v40).toNat)
   case atStart => exact ⟨0, 0, [a0_0, a0_1, a0_2, a0_3, (oneI a0_6), (l0_7.length : Int)], [a0_4, a0_5] ++ l0_7, _, _, rfl, ⟨rfl⟩, ⟨Nat.zero_le _⟩, ⟨by simp [flagsOf]⟩, ⟨by simp [pairsOf]⟩, HP0⟩
   case round =>
    clear hcz_8
    obtain ⟨i, x, xs, ts, vN, vT, rfl, hx, hi, hxs, hts, HP⟩ := hrel
    clear HP0
    have hxi := hx.out
    have hile := hi.out
    by_cases hlt : i < l0_8.length
    ·have c1 : decide (x < (l0_8.length : Int)) = true := decide_eq_true (by omega)
     have p118 : 0 ≤ x := by omega
     have q118 : x < (l0_8.length : Int) := by omega
     have hrd : rd_T50 l0_8 x = l0_8[i] := by rw [hxi]; exact rdT_get hlt
     obtain ⟨ad, e118, hx0, hx1, hx2⟩ := at_T50 HR8.out x p118 q118
     cases e118
     rw [hrd] at hx0 hx1 hx2
     replace hx0 := (HP.out.bel.cell (World.block_lt_of_cell? w _ hx0)).trans hx0
     replace hx1 := (HP.out.bel.cell (World.block_lt_of_cell? w _ hx1)).trans hx1
     replace hx2 := (HP.out.bel.cell (World.block_lt_of_cell? w _ hx2)).trans hx2
     have HXS := Aside0.mk (show [a0_0, a0_1, a0_2, a0_3, (oneI a0_6), (l0_7.length : Int)] ++ flagsOf (l0_8.take (i + 1)) = xs ++ [oneI l0_8[i].f2] from by rw [hxs.out, flags_step hlt, ← List.append_assoc])
     have HTS := Aside0.mk (show ([a0_4, a0_5] ++ l0_7) ++ pairsOf (l0_8.take (i + 1)) = ts ++ [l0_8[i].f0, l0_8[i].f1] from by rw [hts.out, pairs_step hlt, ← List.append_assoc])
     have HXL : Aside0 (xs.length ≤ 1000010) := ⟨by rw [hxs.out]; simp [flagsOf]; omega⟩
     have HTL : Aside0 (ts.length ≤ 3000010) := ⟨by rw [hts.out]; simp [pairs_len]; omega⟩
     have HI := Aside0.mk (show x + 1 = ((i + 1 : Nat) : Int) from by omega)
     have HW : Aside0 (wrap64 (x + 1) = x + 1) := ⟨wrap_id (by omega) (by omega)⟩
     have HLT := Aside0.mk hlt
     obtain ⟨t0, ht0⟩ : ∃ t, t = l0_8[i].f0 := ⟨_, rfl⟩
     obtain ⟨t1, ht1⟩ : ∃ t, t = l0_8[i].f1 := ⟨_, rfl⟩
     obtain ⟨bq, hbq⟩ : ∃ b, b = l0_8[i].f2 := ⟨_, rfl⟩
     rw [← ht0] at hx0 HTS
     rw [← ht1] at hx1 HTS
     rw [← hbq] at hx2 HXS
     replace p118 := eq_true p118
     replace q118 := eq_true q118
     clear ht0 ht1 hbq hrd hxi hile hlt
     obtain ⟨AN, cN, eN⟩ := Kd.R_slice HP.out.ns
     subst eN
     obtain ⟨AT, cT, eT⟩ := Kd.R_slice HP.out.ts
     subst eT
     have HP1 := Aside0.mk (HP.out.drew)
     go_wp2_with (first | ((with_reducible refine gate_dst (N := 7) rfl ?_); refine box_event ?hg (N := 7) ?hd (cs := #[.string (⟨#[]⟩ : ByteArray), .string (⟨#[]⟩ : ByteArray), .bool false]) (t := 50) ?hr ?_; (case hd => rfl); (case hg => rfl); (case hr => first | (go_simp; done) | (go_simp; rfl)); intro g7 hg w7 hbox hb; have HP7 := Aside0.mk (HP.out.below hb); have B7 := Aside0.mk hbox; have G7 : Aside0 (w.heap.size ≤ g7) := ⟨by rw [hg]; exact HP.out.bel.size⟩; replace hx0 := (hb.cell (World.block_lt_of_cell? _ _ hx0)).trans hx0; replace hx1 := (hb.cell (World.block_lt_of_cell? _ _ hx1)).trans hx1; replace hx2 := (hb.cell (World.block_lt_of_cell? _ _ hx2)).trans hx2; clear hg hb hbox HP; have hz0 : w7.cell? ⟨g7, 0, none⟩ = some (.string ⟨#[]⟩) := (blk_cell B7.out 0).trans rfl; have hz1 : w7.cell? ⟨g7, 1, none⟩ = some (.string ⟨#[]⟩) := (blk_cell B7.out 1).trans rfl; have hz2 : w7.cell? ⟨g7, 2, none⟩ = some (.bool false) := (blk_cell B7.out 2).trans rfl; have hzf0 := blk_frozen B7.out 0; have hzf1 := blk_frozen B7.out 1; have hzf2 := blk_frozen B7.out 2))
     have H7 := Aside0.mk (show (((w7.setCell ⟨g7, 0, none⟩ (.string t0)).setCell ⟨g7, 1, none⟩ (.string t1)).setCell ⟨g7, 2, none⟩ (.bool bq)).drew.heap[g7]? = some (.cells #[.string t0, .string t1, .bool bq] 50 (0, 0)) from blk_drew (blk_set (blk_set (blk_set B7.out 0 (.string t0)) 1 (.string t1)) 2 (.bool bq)))
     have HPs := Aside0.mk ((((HP7.out.set B7.out G7.out 0 (.string t0)).set (blk_set B7.out 0 _) G7.out 1 (.string t1)).set (blk_set (blk_set B7.out 0 _) 1 _) G7.out 2 (.bool bq)).drew)
     have HL := Aside0.mk HPs.out.bl
     have HPB := Aside0.mk HPs.out.bp
     have FN := Aside0.mk HPs.out.ns
     have FT := Aside0.mk HPs.out.ts
     have HB := Aside0.mk HPs.out.bel
     have HG := Aside0.mk HPs.out.gep
     clear HPs HP7 B7 G7 hz0 hz1 hz2 hzf0 hzf1 hzf2 hx0 hx1 hx2
     refine wp_region_noPanic ?_
     refine rt_begin (S := (fun W => W.heap[gp]? = some (.cells #[.slice AN xs.length cN, .slice AT ts.length cT] 48 (0, 0)) ∧ W.heap[g7]? = some (.cells #[.string t0, .string t1, .bool bq] 50 (0, 0)))) (s := 16) (by kernel_rfl) ?_
     refine AnyT.taken (i := 0) (v := ?v244) rfl (by kernel_rfl) (by kernel_rfl) (by kernel_rfl) (by kernel_rfl) (fun _ _ _ h => h) (Or.inl ⟨by rfl, ?y244⟩) ?s244 ?_
     case y244 =>
      intro wSW hSW
      (have y0 : wSW.cell? ⟨gp, 0, none⟩ = some (.slice AN xs.length cN) := (blk_cell hSW.1 0).trans rfl; have y1 : wSW.cell? ⟨gp, 1, none⟩ = some (.slice AT ts.length cT) := (blk_cell hSW.1 1).trans rfl; have y2 : wSW.cell? ⟨g7, 0, none⟩ = some (.string t0) := (blk_cell hSW.2 0).trans rfl; have y3 : wSW.cell? ⟨g7, 1, none⟩ = some (.string t1) := (blk_cell hSW.2 1).trans rfl; have y4 : wSW.cell? ⟨g7, 2, none⟩ = some (.bool bq) := (blk_cell hSW.2 2).trans rfl; go_simp)
      all_goals with_reducible rfl
     case s244 => exact ⟨HPB.out, H7.out⟩
     try simp only [Act.put, s1_, s2_, s3_]
     refine AnyT.taken (i := 1) (v := ?v245) rfl (by kernel_rfl) (by kernel_rfl) (by kernel_rfl) (by kernel_rfl) (fun _ _ _ h => h) (Or.inl ⟨by rfl, ?y245⟩) ?s245 ?_
     case y245 =>
      intro wSW hSW
      (have y0 : wSW.cell? ⟨gp, 0, none⟩ = some (.slice AN xs.length cN) := (blk_cell hSW.1 0).trans rfl; have y1 : wSW.cell? ⟨gp, 1, none⟩ = some (.slice AT ts.length cT) := (blk_cell hSW.1 1).trans rfl; have y2 : wSW.cell? ⟨g7, 0, none⟩ = some (.string t0) := (blk_cell hSW.2 0).trans rfl; have y3 : wSW.cell? ⟨g7, 1, none⟩ = some (.string t1) := (blk_cell hSW.2 1).trans rfl; have y4 : wSW.cell? ⟨g7, 2, none⟩ = some (.bool bq) := (blk_cell hSW.2 2).trans rfl; go_simp)
      all_goals with_reducible rfl
     case s245 => exact ⟨HPB.out, H7.out⟩
     try simp only [Act.put, s1_, s2_, s3_]
     refine AnyT.taken (i := 2) (v := ?v246) rfl (by kernel_rfl) (by kernel_rfl) (by kernel_rfl) (by kernel_rfl) (fun _ _ _ h => h) (Or.inl ⟨by rfl, ?y246⟩) ?s246 ?_
     case y246 =>
      intro wSW hSW
      (have y0 : wSW.cell? ⟨gp, 0, none⟩ = some (.slice AN xs.length cN) := (blk_cell hSW.1 0).trans rfl; have y1 : wSW.cell? ⟨gp, 1, none⟩ = some (.slice AT ts.length cT) := (blk_cell hSW.1 1).trans rfl; have y2 : wSW.cell? ⟨g7, 0, none⟩ = some (.string t0) := (blk_cell hSW.2 0).trans rfl; have y3 : wSW.cell? ⟨g7, 1, none⟩ = some (.string t1) := (blk_cell hSW.2 1).trans rfl; have y4 : wSW.cell? ⟨g7, 2, none⟩ = some (.bool bq) := (blk_cell hSW.2 2).trans rfl; go_simp)
      all_goals with_reducible rfl
     case s246 => exact ⟨HPB.out, H7.out⟩
     try simp only [Act.put, s1_, s2_, s3_]
     refine AnyT.taken (i := 3) (v := ?v247) rfl (by kernel_rfl) (by kernel_rfl) (by kernel_rfl) (by kernel_rfl) (fun _ _ _ h => h) (Or.inl ⟨by rfl, ?y247⟩) ?s247 ?_
     case y247 =>
      intro wSW hSW
      (have y0 : wSW.cell? ⟨gp, 0, none⟩ = some (.slice AN xs.length cN) := (blk_cell hSW.1 0).trans rfl; have y1 : wSW.cell? ⟨gp, 1, none⟩ = some (.slice AT ts.length cT) := (blk_cell hSW.1 1).trans rfl; have y2 : wSW.cell? ⟨g7, 0, none⟩ = some (.string t0) := (blk_cell hSW.2 0).trans rfl; have y3 : wSW.cell? ⟨g7, 1, none⟩ = some (.string t1) := (blk_cell hSW.2 1).trans rfl; have y4 : wSW.cell? ⟨g7, 2, none⟩ = some (.bool bq) := (blk_cell hSW.2 2).trans rfl; go_simp)
      all_goals with_reducible rfl
     case s247 => exact ⟨HPB.out, H7.out⟩
     try simp only [Act.put, s1_, s2_, s3_]
     refine AnyT.taken (i := 7) (v := ?v248) rfl (by kernel_rfl) (by kernel_rfl) (by kernel_rfl) (by kernel_rfl) (fun _ _ _ h => h) (Or.inl ⟨by rfl, ?y248⟩) ?s248 ?_
     case y248 =>
      intro wSW hSW
      (have y0 : wSW.cell? ⟨gp, 0, none⟩ = some (.slice AN xs.length cN) := (blk_cell hSW.1 0).trans rfl; have y1 : wSW.cell? ⟨gp, 1, none⟩ = some (.slice AT ts.length cT) := (blk_cell hSW.1 1).trans rfl; have y2 : wSW.cell? ⟨g7, 0, none⟩ = some (.string t0) := (blk_cell hSW.2 0).trans rfl; have y3 : wSW.cell? ⟨g7, 1, none⟩ = some (.string t1) := (blk_cell hSW.2 1).trans rfl; have y4 : wSW.cell? ⟨g7, 2, none⟩ = some (.bool bq) := (blk_cell hSW.2 2).trans rfl; go_simp)
      all_goals with_reducible rfl
     case s248 => exact ⟨HPB.out, H7.out⟩
     try simp only [Act.put, s1_, s2_, s3_]
     refine AnyT.taken (i := 8) (v := ?v249) rfl (by kernel_rfl) (by kernel_rfl) (by kernel_rfl) (by kernel_rfl) (fun _ _ _ h => h) (Or.inl ⟨by rfl, ?y249⟩) ?s249 ?_
     case y249 =>
      intro wSW hSW
      (have y0 : wSW.cell? ⟨gp, 0, none⟩ = some (.slice AN xs.length cN) := (blk_cell hSW.1 0).trans rfl; have y1 : wSW.cell? ⟨gp, 1, none⟩ = some (.slice AT ts.length cT) := (blk_cell hSW.1 1).trans rfl; have y2 : wSW.cell? ⟨g7, 0, none⟩ = some (.string t0) := (blk_cell hSW.2 0).trans rfl; have y3 : wSW.cell? ⟨g7, 1, none⟩ = some (.string t1) := (blk_cell hSW.2 1).trans rfl; have y4 : wSW.cell? ⟨g7, 2, none⟩ = some (.bool bq) := (blk_cell hSW.2 2).trans rfl; go_simp)
      all_goals with_reducible rfl
     case s249 => exact ⟨HPB.out, H7.out⟩
     try simp only [Act.put, s1_, s2_, s3_]
     refine AnyT.taken (i := 9) (v := ?v250) rfl (by kernel_rfl) (by kernel_rfl) (by kernel_rfl) (by kernel_rfl) (fun _ _ _ h => h) (Or.inl ⟨by rfl, ?y250⟩) ?s250 ?_
     case y250 =>
      intro wSW hSW
      (have y0 : wSW.cell? ⟨gp, 0, none⟩ = some (.slice AN xs.length cN) := (blk_cell hSW.1 0).trans rfl; have y1 : wSW.cell? ⟨gp, 1, none⟩ = some (.slice AT ts.length cT) := (blk_cell hSW.1 1).trans rfl; have y2 : wSW.cell? ⟨g7, 0, none⟩ = some (.string t0) := (blk_cell hSW.2 0).trans rfl; have y3 : wSW.cell? ⟨g7, 1, none⟩ = some (.string t1) := (blk_cell hSW.2 1).trans rfl; have y4 : wSW.cell? ⟨g7, 2, none⟩ = some (.bool bq) := (blk_cell hSW.2 2).trans rfl; go_simp)
      all_goals with_reducible rfl
     case s250 => exact ⟨HPB.out, H7.out⟩
     try simp only [Act.put, s1_, s2_, s3_]
     refine AnyT.taken (i := 10) (v := ?v251) rfl (by kernel_rfl) (by kernel_rfl) (by kernel_rfl) (by kernel_rfl) (fun _ _ _ h => h) (Or.inl ⟨by rfl, ?y251⟩) ?s251 ?_
     case y251 =>
      intro wSW hSW
      (have y0 : wSW.cell? ⟨gp, 0, none⟩ = some (.slice AN xs.length cN) := (blk_cell hSW.1 0).trans rfl; have y1 : wSW.cell? ⟨gp, 1, none⟩ = some (.slice AT ts.length cT) := (blk_cell hSW.1 1).trans rfl; have y2 : wSW.cell? ⟨g7, 0, none⟩ = some (.string t0) := (blk_cell hSW.2 0).trans rfl; have y3 : wSW.cell? ⟨g7, 1, none⟩ = some (.string t1) := (blk_cell hSW.2 1).trans rfl; have y4 : wSW.cell? ⟨g7, 2, none⟩ = some (.bool bq) := (blk_cell hSW.2 2).trans rfl; go_simp)
      all_goals with_reducible rfl
     case s251 => exact ⟨HPB.out, H7.out⟩
     try simp only [Act.put, s1_, s2_, s3_]
     refine AnyT.taken (i := 11) (v := ?v252) rfl (by kernel_rfl) (by kernel_rfl) (by kernel_rfl) (by kernel_rfl) (fun _ _ _ h => h) (Or.inl ⟨by rfl, ?y252⟩) ?s252 ?_
     case y252 =>
      intro wSW hSW
      (have y0 : wSW.cell? ⟨gp, 0, none⟩ = some (.slice AN xs.length cN) := (blk_cell hSW.1 0).trans rfl; have y1 : wSW.cell? ⟨gp, 1, none⟩ = some (.slice AT ts.length cT) := (blk_cell hSW.1 1).trans rfl; have y2 : wSW.cell? ⟨g7, 0, none⟩ = some (.string t0) := (blk_cell hSW.2 0).trans rfl; have y3 : wSW.cell? ⟨g7, 1, none⟩ = some (.string t1) := (blk_cell hSW.2 1).trans rfl; have y4 : wSW.cell? ⟨g7, 2, none⟩ = some (.bool bq) := (blk_cell hSW.2 2).trans rfl; go_simp)
      all_goals with_reducible rfl
     case s252 => exact ⟨HPB.out, H7.out⟩
     try simp only [Act.put, s1_, s2_, s3_]
     refine AnyT.taken (i := 12) (v := ?v253) rfl (by kernel_rfl) (by kernel_rfl) (by kernel_rfl) (by kernel_rfl) (fun _ _ _ h => h) (Or.inl ⟨by rfl, ?y253⟩) ?s253 ?_
     case y253 =>
      intro wSW hSW
      (have y0 : wSW.cell? ⟨gp, 0, none⟩ = some (.slice AN xs.length cN) := (blk_cell hSW.1 0).trans rfl; have y1 : wSW.cell? ⟨gp, 1, none⟩ = some (.slice AT ts.length cT) := (blk_cell hSW.1 1).trans rfl; have y2 : wSW.cell? ⟨g7, 0, none⟩ = some (.string t0) := (blk_cell hSW.2 0).trans rfl; have y3 : wSW.cell? ⟨g7, 1, none⟩ = some (.string t1) := (blk_cell hSW.2 1).trans rfl; have y4 : wSW.cell? ⟨g7, 2, none⟩ = some (.bool bq) := (blk_cell hSW.2 2).trans rfl; go_simp)
      all_goals with_reducible rfl
     case s253 => exact ⟨HPB.out, H7.out⟩
     try simp only [Act.put, s1_, s2_, s3_]
     refine AnyT.ready (rs := [4, 13]) (by kernel_rfl) (by simp) (AllT.step rfl (fun K hK => ?b25404) (AllT.step rfl (fun K hK => ?b25413) AllT.nil))
     case b25404 =>
      (refine goes_ Try.func20 (by kernel_rfl) rfl #[.bool bq] (by rfl) rfl rfl (by (try simp only [List.map_toArray, List.map_cons, List.map_nil]); first | done | rfl) ?_; refine (one_calls bq _).mono ?_; rintro e w9 ⟨rfl, hb⟩; refine ⟨_, rfl, ?_⟩; (try replace FA := Aside0.mk (Kd.R_below FA.out hb)); (try replace FL := Aside0.mk (Kd.R_below FL.out hb)); replace FN := Aside0.mk (Kd.R_below FN.out hb); replace FT := Aside0.mk (Kd.R_below FT.out hb); replace HPB := Aside0.mk (blk_below HPB.out hb); replace H7 := Aside0.mk (blk_below H7.out hb); replace HL := Aside0.mk (blk_below HL.out hb); replace HB := Aside0.mk (below_step HB.out hb); clear hb)
      refine hK.out _ _ ?_ ?_
      ·intro _; exact ⟨HPB.out, H7.out⟩
      clear hK K
      try simp only [Act.put, s1_, s2_, s3_]
      refine AnyT.ready (rs := [5, 13]) (by kernel_rfl) (by simp) (AllT.step rfl (fun K hK => ?b25605) (AllT.step rfl (fun K hK => ?b25613) AllT.nil))
      case b25605 =>
       (refine Kd.R_lit_step (Kd.int .i64) (w0 := w) w.heap.size 3 (by rfl) (N := 49) (by rfl) (xs := [(oneI bq)]) (inner := [.int .i64 (oneI bq)]) (ok := fun _ => True) (okp := fun _ => True) ?hr (reps_ints _ _ _ [(oneI bq)]) (fun _ h => h) trivial HB.out HB.out.size (by simp) ?_; (case hr => first | (go_simp; done) | (go_simp; rfl)); intro vx w9 ho hb hg hat; (try replace FA := Aside0.mk (Kd.R_grown FA.out hg (fun _ _ => by simp))); (try replace FL := Aside0.mk (Kd.R_grown FL.out hg (fun _ _ => by simp))); replace FN := Aside0.mk (Kd.R_grown FN.out hg (fun _ _ => by simp)); replace FT := Aside0.mk (Kd.R_grown FT.out hg (fun _ _ => by simp)); replace HPB := Aside0.mk (blk_grown HPB.out hg (by simp)); replace H7 := Aside0.mk (blk_grown H7.out hg (by simp)); replace HL := Aside0.mk (blk_grown HL.out hg (by simp)); replace HB := Aside0.mk hb; obtain ⟨A49, c49, e9⟩ := Kd.R_slice ho; subst e9; have FA := Aside0.mk ho; clear ho hb hg hat)
       refine hK.out _ _ ?_ ?_
       ·intro _; exact ⟨HPB.out, H7.out⟩
       clear hK K
       try simp only [Act.put, s1_, s2_, s3_]
       refine AnyT.ready (rs := [6, 13]) (by kernel_rfl) (by simp) (AllT.step rfl (fun K hK => ?b25806) (AllT.step rfl (fun K hK => ?b25813) AllT.nil))
       case b25806 =>
        (refine Kd.R_append_rows_step (Kd.int .i64) (w0 := w) w.heap.size (by rfl) (.tmp 45) (.tmp 49) 46 3 (.int .i64 0) 8 (by rfl) Try.underlying46 info3 rfl (by decide) (by omega) (.slice AN xs.length cN) xs [(oneI bq)] _ _ _ (fun _ => True) (fun _ => False) (by rfl) (by rfl) FN.out (Kd.R_reads' FA.out).2.2 (fun _ _ h => h) (fun _ h => h.elim) (fun _ _ => trivial) HB.out HB.out.size (by have h1 := HXL.out; have h2 := HTL.out; simp only [List.length_cons, List.length_nil]; omega) ?_; intro vx w9 ho hb hg hat; (try replace FT := Aside0.mk (Kd.R_over FT.out FN.out (by decide) hg)); (try replace FL := Aside0.mk (Kd.R_over FL.out FN.out (by decide) hg)); replace HPB := Aside0.mk (blk_grown HPB.out hg (Kd.R_ne FN.out HPB.out (by decide))); replace H7 := Aside0.mk (blk_grown H7.out hg (Kd.R_ne FN.out H7.out (by decide))); replace HL := Aside0.mk (blk_grown HL.out hg (Kd.R_ne FN.out HL.out (by decide))); replace HB := Aside0.mk hb; obtain ⟨A50, c50, e9⟩ := Kd.R_slice ho; simp only [List.length_append, List.length_cons, List.length_nil, Nat.zero_add, Nat.reduceAdd] at e9; subst e9; replace FN := Aside0.mk ho; clear ho hb hg hat FA)
        refine hK.out _ _ ?_ ?_
        ·intro _; exact ⟨HPB.out, H7.out⟩
        clear hK K
        try simp only [Act.put, s1_, s2_, s3_]
        refine AnyT.taken (i := 15) (v := ?v260) rfl (by kernel_rfl) (by kernel_rfl) (by kernel_rfl) (by kernel_rfl) (fun _ _ _ h => h) (Or.inl ⟨by rfl, ?y260⟩) ?s260 ?_
        case y260 =>
         intro wSW hSW
         (have y0 : wSW.cell? ⟨gp, 0, none⟩ = some (.slice AN xs.length cN) := (blk_cell hSW.1 0).trans rfl; have y1 : wSW.cell? ⟨gp, 1, none⟩ = some (.slice AT ts.length cT) := (blk_cell hSW.1 1).trans rfl; have y2 : wSW.cell? ⟨g7, 0, none⟩ = some (.string t0) := (blk_cell hSW.2 0).trans rfl; have y3 : wSW.cell? ⟨g7, 1, none⟩ = some (.string t1) := (blk_cell hSW.2 1).trans rfl; have y4 : wSW.cell? ⟨g7, 2, none⟩ = some (.bool bq) := (blk_cell hSW.2 2).trans rfl; go_simp)
         all_goals with_reducible rfl
        case s260 => exact ⟨HPB.out, H7.out⟩
        try simp only [Act.put, s1_, s2_, s3_]
        refine AnyT.ready (rs := [13]) (by kernel_rfl) (by simp) (AllT.step rfl (fun K hK => ?b26113) AllT.nil)
        case b26113 =>
         (refine Kd.R_lit_step Kd.string (w0 := w) w.heap.size 9 (by rfl) (N := 57) (by rfl) (xs := [t0, t1]) (inner := [.string t0, .string t1]) (ok := fun _ => True) (okp := fun _ => True) ?hr (reps_texts _ _ _ [t0, t1]) (fun _ h => h) trivial HB.out HB.out.size (by simp) ?_; (case hr => first | (go_simp; done) | (go_simp; rfl)); intro vx w9 ho hb hg hat; (try replace FA := Aside0.mk (Kd.R_grown FA.out hg (fun _ _ => by simp))); (try replace FL := Aside0.mk (Kd.R_grown FL.out hg (fun _ _ => by simp))); replace FN := Aside0.mk (Kd.R_grown FN.out hg (fun _ _ => by simp)); replace FT := Aside0.mk (Kd.R_grown FT.out hg (fun _ _ => by simp)); replace HPB := Aside0.mk (blk_grown HPB.out hg (by simp)); replace H7 := Aside0.mk (blk_grown H7.out hg (by simp)); replace HL := Aside0.mk (blk_grown HL.out hg (by simp)); replace HB := Aside0.mk hb; obtain ⟨A57, c57, e9⟩ := Kd.R_slice ho; subst e9; have FL := Aside0.mk ho; clear ho hb hg hat)
         refine hK.out _ _ ?_ ?_
         ·intro _; exact ⟨HPB.out, H7.out⟩
         clear hK K
         try simp only [Act.put, s1_, s2_, s3_]
         refine AnyT.ready (rs := [14]) (by kernel_rfl) (by simp) (AllT.step rfl (fun K hK => ?b26314) AllT.nil)
         case b26314 =>
          (refine Kd.R_append_rows_step Kd.string (w0 := w) w.heap.size (by rfl) (.tmp 52) (.tmp 57) 22 9 (.string ⟨#[]⟩) 16 (by rfl) Try.underlying22 info9 rfl (by decide) (by omega) (.slice AT ts.length cT) ts [t0, t1] _ _ _ (fun _ => True) (fun _ => False) (by rfl) (by rfl) FT.out (Kd.R_reads' FL.out).2.2 (fun _ _ h => h) (fun _ h => h.elim) (fun _ _ => trivial) HB.out HB.out.size (by have h1 := HXL.out; have h2 := HTL.out; simp only [List.length_cons, List.length_nil]; omega) ?_; intro vx w9 ho hb hg hat; (try replace FN := Aside0.mk (Kd.R_over FN.out FT.out (by decide) hg)); replace HPB := Aside0.mk (blk_grown HPB.out hg (Kd.R_ne FT.out HPB.out (by decide))); replace H7 := Aside0.mk (blk_grown H7.out hg (Kd.R_ne FT.out H7.out (by decide))); replace HL := Aside0.mk (blk_grown HL.out hg (Kd.R_ne FT.out HL.out (by decide))); replace HB := Aside0.mk hb; obtain ⟨A58, c58, e9⟩ := Kd.R_slice ho; simp only [List.length_append, List.length_cons, List.length_nil, Nat.zero_add, Nat.reduceAdd] at e9; subst e9; replace FT := Aside0.mk ho; clear ho hb hg hat FL)
          refine hK.out _ _ ?_ ?_
          ·intro _; exact ⟨HPB.out, H7.out⟩
          clear hK K
          try simp only [Act.put, s1_, s2_, s3_]
          refine AnyT.ready (rs := [16]) (by kernel_rfl) (by simp) (AllT.step rfl (fun K hK => ?b26516) AllT.nil)
          case b26516 =>
           (have hs0 : w9.cell? ⟨gp, 0, none⟩ = some (.slice AN xs.length cN) := (blk_cell HPB.out 0).trans rfl; have hf0 := blk_frozen HPB.out 0; go_simp)
           refine hK.out _ _ ?_ ?_
           ·exact past (by kernel_rfl)
           clear hK K
           try simp only [Act.put, s1_, s2_, s3_]
           refine AnyT.ready (rs := [17]) (by kernel_rfl) (by simp) (AllT.step rfl (fun K hK => ?b26717) AllT.nil)
           case b26717 =>
            go_simp
            refine hK.out _ _ ?_ ?_
            ·exact past (by kernel_rfl)
            clear hK K
            try simp only [Act.put, s1_, s2_, s3_]
            refine AnyT.ready (rs := [18]) (by kernel_rfl) (by simp) (AllT.step rfl (fun K hK => ?b26918) AllT.nil)
            case b26918 =>
             (have hs1 : (w9.setCell ⟨gp, 0, none⟩ (.slice A50 (xs.length + 1) c50)).cell? ⟨gp, 1, none⟩ = some (.slice AT ts.length cT) := (blk_cell (blk_set HPB.out 0 (.slice A50 (xs.length + 1) c50)) 1).trans rfl; have hf1 := blk_frozen (blk_set HPB.out 0 (.slice A50 (xs.length + 1) c50)) 1; go_simp)
             refine hK.out _ _ ?_ ?_
             ·exact past (by kernel_rfl)
             clear hK K
             try simp only [Act.put, s1_, s2_, s3_]
             refine AnyT.done (by kernel_rfl) ?_ _
             refine NoPanic.normal ?_
             (have HE := Aside0.mk (PE.of HL.out HB.out FN.out FT.out HPB.out HG.out); have hm := Aside0.mk (round_less hx.out HLT.out); clear FN FT HPB HB H7 HL HG; go_wp2; rw [HW.out]; exact ⟨⟨i + 1, x + 1, xs ++ [(oneI bq)], ts ++ [t0, t1], _, _, rfl, HI, ⟨HLT.out⟩, ⟨HXS.out.symm⟩, ⟨HTS.out.symm⟩, HE⟩, hm.out⟩)
       case b25813 =>
        (refine Kd.R_lit_step Kd.string (w0 := w) w.heap.size 9 (by rfl) (N := 57) (by rfl) (xs := [t0, t1]) (inner := [.string t0, .string t1]) (ok := fun _ => True) (okp := fun _ => True) ?hr (reps_texts _ _ _ [t0, t1]) (fun _ h => h) trivial HB.out HB.out.size (by simp) ?_; (case hr => first | (go_simp; done) | (go_simp; rfl)); intro vx w9 ho hb hg hat; (try replace FA := Aside0.mk (Kd.R_grown FA.out hg (fun _ _ => by simp))); (try replace FL := Aside0.mk (Kd.R_grown FL.out hg (fun _ _ => by simp))); replace FN := Aside0.mk (Kd.R_grown FN.out hg (fun _ _ => by simp)); replace FT := Aside0.mk (Kd.R_grown FT.out hg (fun _ _ => by simp)); replace HPB := Aside0.mk (blk_grown HPB.out hg (by simp)); replace H7 := Aside0.mk (blk_grown H7.out hg (by simp)); replace HL := Aside0.mk (blk_grown HL.out hg (by simp)); replace HB := Aside0.mk hb; obtain ⟨A57, c57, e9⟩ := Kd.R_slice ho; subst e9; have FL := Aside0.mk ho; clear ho hb hg hat)
        refine hK.out _ _ ?_ ?_
        ·intro _; exact ⟨HPB.out, H7.out⟩
        clear hK K
        try simp only [Act.put, s1_, s2_, s3_]
        refine AnyT.ready (rs := [6]) (by kernel_rfl) (by simp) (AllT.step rfl (fun K hK => ?b27306) AllT.nil)
        case b27306 =>
         (refine Kd.R_append_rows_step (Kd.int .i64) (w0 := w) w.heap.size (by rfl) (.tmp 45) (.tmp 49) 46 3 (.int .i64 0) 8 (by rfl) Try.underlying46 info3 rfl (by decide) (by omega) (.slice AN xs.length cN) xs [(oneI bq)] _ _ _ (fun _ => True) (fun _ => False) (by rfl) (by rfl) FN.out (Kd.R_reads' FA.out).2.2 (fun _ _ h => h) (fun _ h => h.elim) (fun _ _ => trivial) HB.out HB.out.size (by have h1 := HXL.out; have h2 := HTL.out; simp only [List.length_cons, List.length_nil]; omega) ?_; intro vx w9 ho hb hg hat; (try replace FT := Aside0.mk (Kd.R_over FT.out FN.out (by decide) hg)); (try replace FL := Aside0.mk (Kd.R_over FL.out FN.out (by decide) hg)); replace HPB := Aside0.mk (blk_grown HPB.out hg (Kd.R_ne FN.out HPB.out (by decide))); replace H7 := Aside0.mk (blk_grown H7.out hg (Kd.R_ne FN.out H7.out (by decide))); replace HL := Aside0.mk (blk_grown HL.out hg (Kd.R_ne FN.out HL.out (by decide))); replace HB := Aside0.mk hb; obtain ⟨A50, c50, e9⟩ := Kd.R_slice ho; simp only [List.length_append, List.length_cons, List.length_nil, Nat.zero_add, Nat.reduceAdd] at e9; subst e9; replace FN := Aside0.mk ho; clear ho hb hg hat FA)
         refine hK.out _ _ ?_ ?_
         ·intro _; exact ⟨HPB.out, H7.out⟩
         clear hK K
         try simp only [Act.put, s1_, s2_, s3_]
         refine AnyT.taken (i := 15) (v := ?v275) rfl (by kernel_rfl) (by kernel_rfl) (by kernel_rfl) (by kernel_rfl) (fun _ _ _ h => h) (Or.inl ⟨by rfl, ?y275⟩) ?s275 ?_
         case y275 =>
          intro wSW hSW
          (have y0 : wSW.cell? ⟨gp, 0, none⟩ = some (.slice AN xs.length cN) := (blk_cell hSW.1 0).trans rfl; have y1 : wSW.cell? ⟨gp, 1, none⟩ = some (.slice AT ts.length cT) := (blk_cell hSW.1 1).trans rfl; have y2 : wSW.cell? ⟨g7, 0, none⟩ = some (.string t0) := (blk_cell hSW.2 0).trans rfl; have y3 : wSW.cell? ⟨g7, 1, none⟩ = some (.string t1) := (blk_cell hSW.2 1).trans rfl; have y4 : wSW.cell? ⟨g7, 2, none⟩ = some (.bool bq) := (blk_cell hSW.2 2).trans rfl; go_simp)
          all_goals with_reducible rfl
         case s275 => exact ⟨HPB.out, H7.out⟩
         try simp only [Act.put, s1_, s2_, s3_]
         refine AnyT.ready (rs := [14]) (by kernel_rfl) (by simp) (AllT.step rfl (fun K hK => ?b27614) AllT.nil)
         case b27614 =>
          (refine Kd.R_append_rows_step Kd.string (w0 := w) w.heap.size (by rfl) (.tmp 52) (.tmp 57) 22 9 (.string ⟨#[]⟩) 16 (by rfl) Try.underlying22 info9 rfl (by decide) (by omega) (.slice AT ts.length cT) ts [t0, t1] _ _ _ (fun _ => True) (fun _ => False) (by rfl) (by rfl) FT.out (Kd.R_reads' FL.out).2.2 (fun _ _ h => h) (fun _ h => h.elim) (fun _ _ => trivial) HB.out HB.out.size (by have h1 := HXL.out; have h2 := HTL.out; simp only [List.length_cons, List.length_nil]; omega) ?_; intro vx w9 ho hb hg hat; (try replace FN := Aside0.mk (Kd.R_over FN.out FT.out (by decide) hg)); replace HPB := Aside0.mk (blk_grown HPB.out hg (Kd.R_ne FT.out HPB.out (by decide))); replace H7 := Aside0.mk (blk_grown H7.out hg (Kd.R_ne FT.out H7.out (by decide))); replace HL := Aside0.mk (blk_grown HL.out hg (Kd.R_ne FT.out HL.out (by decide))); replace HB := Aside0.mk hb; obtain ⟨A58, c58, e9⟩ := Kd.R_slice ho; simp only [List.length_append, List.length_cons, List.length_nil, Nat.zero_add, Nat.reduceAdd] at e9; subst e9; replace FT := Aside0.mk ho; clear ho hb hg hat FL)
          refine hK.out _ _ ?_ ?_
          ·intro _; exact ⟨HPB.out, H7.out⟩
          clear hK K
          try simp only [Act.put, s1_, s2_, s3_]
          refine AnyT.ready (rs := [16]) (by kernel_rfl) (by simp) (AllT.step rfl (fun K hK => ?b27816) AllT.nil)
          case b27816 =>
           (have hs0 : w9.cell? ⟨gp, 0, none⟩ = some (.slice AN xs.length cN) := (blk_cell HPB.out 0).trans rfl; have hf0 := blk_frozen HPB.out 0; go_simp)
           refine hK.out _ _ ?_ ?_
           ·exact past (by kernel_rfl)
           clear hK K
           try simp only [Act.put, s1_, s2_, s3_]
           refine AnyT.ready (rs := [17]) (by kernel_rfl) (by simp) (AllT.step rfl (fun K hK => ?b28017) AllT.nil)
           case b28017 =>
            go_simp
            refine hK.out _ _ ?_ ?_
            ·exact past (by kernel_rfl)
            clear hK K
            try simp only [Act.put, s1_, s2_, s3_]
            refine AnyT.ready (rs := [18]) (by kernel_rfl) (by simp) (AllT.step rfl (fun K hK => ?b28218) AllT.nil)
            case b28218 =>
             (have hs1 : (w9.setCell ⟨gp, 0, none⟩ (.slice A50 (xs.length + 1) c50)).cell? ⟨gp, 1, none⟩ = some (.slice AT ts.length cT) := (blk_cell (blk_set HPB.out 0 (.slice A50 (xs.length + 1) c50)) 1).trans rfl; have hf1 := blk_frozen (blk_set HPB.out 0 (.slice A50 (xs.length + 1) c50)) 1; go_simp)
             refine hK.out _ _ ?_ ?_
             ·exact past (by kernel_rfl)
             clear hK K
             try simp only [Act.put, s1_, s2_, s3_]
             refine AnyT.done (by kernel_rfl) ?_ _
             refine NoPanic.normal ?_
             (have HE := Aside0.mk (PE.of HL.out HB.out FN.out FT.out HPB.out HG.out); have hm := Aside0.mk (round_less hx.out HLT.out); clear FN FT HPB HB H7 HL HG; go_wp2; rw [HW.out]; exact ⟨⟨i + 1, x + 1, xs ++ [(oneI bq)], ts ++ [t0, t1], _, _, rfl, HI, ⟨HLT.out⟩, ⟨HXS.out.symm⟩, ⟨HTS.out.symm⟩, HE⟩, hm.out⟩)
      case b25613 =>
       (refine Kd.R_lit_step Kd.string (w0 := w) w.heap.size 9 (by rfl) (N := 57) (by rfl) (xs := [t0, t1]) (inner := [.string t0, .string t1]) (ok := fun _ => True) (okp := fun _ => True) ?hr (reps_texts _ _ _ [t0, t1]) (fun _ h => h) trivial HB.out HB.out.size (by simp) ?_; (case hr => first | (go_simp; done) | (go_simp; rfl)); intro vx w9 ho hb hg hat; (try replace FA := Aside0.mk (Kd.R_grown FA.out hg (fun _ _ => by simp))); (try replace FL := Aside0.mk (Kd.R_grown FL.out hg (fun _ _ => by simp))); replace FN := Aside0.mk (Kd.R_grown FN.out hg (fun _ _ => by simp)); replace FT := Aside0.mk (Kd.R_grown FT.out hg (fun _ _ => by simp)); replace HPB := Aside0.mk (blk_grown HPB.out hg (by simp)); replace H7 := Aside0.mk (blk_grown H7.out hg (by simp)); replace HL := Aside0.mk (blk_grown HL.out hg (by simp)); replace HB := Aside0.mk hb; obtain ⟨A57, c57, e9⟩ := Kd.R_slice ho; subst e9; have FL := Aside0.mk ho; clear ho hb hg hat)
       refine hK.out _ _ ?_ ?_
       ·intro _; exact ⟨HPB.out, H7.out⟩
       clear hK K
       try simp only [Act.put, s1_, s2_, s3_]
       refine AnyT.ready (rs := [5]) (by kernel_rfl) (by simp) (AllT.step rfl (fun K hK => ?b28605) AllT.nil)
       case b28605 =>
        (refine Kd.R_lit_step (Kd.int .i64) (w0 := w) w.heap.size 3 (by rfl) (N := 49) (by rfl) (xs := [(oneI bq)]) (inner := [.int .i64 (oneI bq)]) (ok := fun _ => True) (okp := fun _ => True) ?hr (reps_ints _ _ _ [(oneI bq)]) (fun _ h => h) trivial HB.out HB.out.size (by simp) ?_; (case hr => first | (go_simp; done) | (go_simp; rfl)); intro vx w9 ho hb hg hat; (try replace FA := Aside0.mk (Kd.R_grown FA.out hg (fun _ _ => by simp))); (try replace FL := Aside0.mk (Kd.R_grown FL.out hg (fun _ _ => by simp))); replace FN := Aside0.mk (Kd.R_grown FN.out hg (fun _ _ => by simp)); replace FT := Aside0.mk (Kd.R_grown FT.out hg (fun _ _ => by simp)); replace HPB := Aside0.mk (blk_grown HPB.out hg (by simp)); replace H7 := Aside0.mk (blk_grown H7.out hg (by simp)); replace HL := Aside0.mk (blk_grown HL.out hg (by simp)); replace HB := Aside0.mk hb; obtain ⟨A49, c49, e9⟩ := Kd.R_slice ho; subst e9; have FA := Aside0.mk ho; clear ho hb hg hat)
        refine hK.out _ _ ?_ ?_
        ·intro _; exact ⟨HPB.out, H7.out⟩
        clear hK K
        try simp only [Act.put, s1_, s2_, s3_]
        refine AnyT.ready (rs := [6]) (by kernel_rfl) (by simp) (AllT.step rfl (fun K hK => ?b28806) AllT.nil)
        case b28806 =>
         (refine Kd.R_append_rows_step (Kd.int .i64) (w0 := w) w.heap.size (by rfl) (.tmp 45) (.tmp 49) 46 3 (.int .i64 0) 8 (by rfl) Try.underlying46 info3 rfl (by decide) (by omega) (.slice AN xs.length cN) xs [(oneI bq)] _ _ _ (fun _ => True) (fun _ => False) (by rfl) (by rfl) FN.out (Kd.R_reads' FA.out).2.2 (fun _ _ h => h) (fun _ h => h.elim) (fun _ _ => trivial) HB.out HB.out.size (by have h1 := HXL.out; have h2 := HTL.out; simp only [List.length_cons, List.length_nil]; omega) ?_; intro vx w9 ho hb hg hat; (try replace FT := Aside0.mk (Kd.R_over FT.out FN.out (by decide) hg)); (try replace FL := Aside0.mk (Kd.R_over FL.out FN.out (by decide) hg)); replace HPB := Aside0.mk (blk_grown HPB.out hg (Kd.R_ne FN.out HPB.out (by decide))); replace H7 := Aside0.mk (blk_grown H7.out hg (Kd.R_ne FN.out H7.out (by decide))); replace HL := Aside0.mk (blk_grown HL.out hg (Kd.R_ne FN.out HL.out (by decide))); replace HB := Aside0.mk hb; obtain ⟨A50, c50, e9⟩ := Kd.R_slice ho; simp only [List.length_append, List.length_cons, List.length_nil, Nat.zero_add, Nat.reduceAdd] at e9; subst e9; replace FN := Aside0.mk ho; clear ho hb hg hat FA)
         refine hK.out _ _ ?_ ?_
         ·intro _; exact ⟨HPB.out, H7.out⟩
         clear hK K
         try simp only [Act.put, s1_, s2_, s3_]
         refine AnyT.taken (i := 15) (v := ?v290) rfl (by kernel_rfl) (by kernel_rfl) (by kernel_rfl) (by kernel_rfl) (fun _ _ _ h => h) (Or.inl ⟨by rfl, ?y290⟩) ?s290 ?_
         case y290 =>
          intro wSW hSW
          (have y0 : wSW.cell? ⟨gp, 0, none⟩ = some (.slice AN xs.length cN) := (blk_cell hSW.1 0).trans rfl; have y1 : wSW.cell? ⟨gp, 1, none⟩ = some (.slice AT ts.length cT) := (blk_cell hSW.1 1).trans rfl; have y2 : wSW.cell? ⟨g7, 0, none⟩ = some (.string t0) := (blk_cell hSW.2 0).trans rfl; have y3 : wSW.cell? ⟨g7, 1, none⟩ = some (.string t1) := (blk_cell hSW.2 1).trans rfl; have y4 : wSW.cell? ⟨g7, 2, none⟩ = some (.bool bq) := (blk_cell hSW.2 2).trans rfl; go_simp)
          all_goals with_reducible rfl
         case s290 => exact ⟨HPB.out, H7.out⟩
         try simp only [Act.put, s1_, s2_, s3_]
         refine AnyT.ready (rs := [14]) (by kernel_rfl) (by simp) (AllT.step rfl (fun K hK => ?b29114) AllT.nil)
         case b29114 =>
          (refine Kd.R_append_rows_step Kd.string (w0 := w) w.heap.size (by rfl) (.tmp 52) (.tmp 57) 22 9 (.string ⟨#[]⟩) 16 (by rfl) Try.underlying22 info9 rfl (by decide) (by omega) (.slice AT ts.length cT) ts [t0, t1] _ _ _ (fun _ => True) (fun _ => False) (by rfl) (by rfl) FT.out (Kd.R_reads' FL.out).2.2 (fun _ _ h => h) (fun _ h => h.elim) (fun _ _ => trivial) HB.out HB.out.size (by have h1 := HXL.out; have h2 := HTL.out; simp only [List.length_cons, List.length_nil]; omega) ?_; intro vx w9 ho hb hg hat; (try replace FN := Aside0.mk (Kd.R_over FN.out FT.out (by decide) hg)); replace HPB := Aside0.mk (blk_grown HPB.out hg (Kd.R_ne FT.out HPB.out (by decide))); replace H7 := Aside0.mk (blk_grown H7.out hg (Kd.R_ne FT.out H7.out (by decide))); replace HL := Aside0.mk (blk_grown HL.out hg (Kd.R_ne FT.out HL.out (by decide))); replace HB := Aside0.mk hb; obtain ⟨A58, c58, e9⟩ := Kd.R_slice ho; simp only [List.length_append, List.length_cons, List.length_nil, Nat.zero_add, Nat.reduceAdd] at e9; subst e9; replace FT := Aside0.mk ho; clear ho hb hg hat FL)
          refine hK.out _ _ ?_ ?_
          ·intro _; exact ⟨HPB.out, H7.out⟩
          clear hK K
          try simp only [Act.put, s1_, s2_, s3_]
          refine AnyT.ready (rs := [16]) (by kernel_rfl) (by simp) (AllT.step rfl (fun K hK => ?b29316) AllT.nil)
          case b29316 =>
           (have hs0 : w9.cell? ⟨gp, 0, none⟩ = some (.slice AN xs.length cN) := (blk_cell HPB.out 0).trans rfl; have hf0 := blk_frozen HPB.out 0; go_simp)
           refine hK.out _ _ ?_ ?_
           ·exact past (by kernel_rfl)
           clear hK K
           try simp only [Act.put, s1_, s2_, s3_]
           refine AnyT.ready (rs := [17]) (by kernel_rfl) (by simp) (AllT.step rfl (fun K hK => ?b29517) AllT.nil)
           case b29517 =>
            go_simp
            refine hK.out _ _ ?_ ?_
            ·exact past (by kernel_rfl)
            clear hK K
            try simp only [Act.put, s1_, s2_, s3_]
            refine AnyT.ready (rs := [18]) (by kernel_rfl) (by simp) (AllT.step rfl (fun K hK => ?b29718) AllT.nil)
            case b29718 =>
             (have hs1 : (w9.setCell ⟨gp, 0, none⟩ (.slice A50 (xs.length + 1) c50)).cell? ⟨gp, 1, none⟩ = some (.slice AT ts.length cT) := (blk_cell (blk_set HPB.out 0 (.slice A50 (xs.length + 1) c50)) 1).trans rfl; have hf1 := blk_frozen (blk_set HPB.out 0 (.slice A50 (xs.length + 1) c50)) 1; go_simp)
             refine hK.out _ _ ?_ ?_
             ·exact past (by kernel_rfl)
             clear hK K
             try simp only [Act.put, s1_, s2_, s3_]
             refine AnyT.done (by kernel_rfl) ?_ _
             refine NoPanic.normal ?_
             (have HE := Aside0.mk (PE.of HL.out HB.out FN.out FT.out HPB.out HG.out); have hm := Aside0.mk (round_less hx.out HLT.out); clear FN FT HPB HB H7 HL HG; go_wp2; rw [HW.out]; exact ⟨⟨i + 1, x + 1, xs ++ [(oneI bq)], ts ++ [t0, t1], _, _, rfl, HI, ⟨HLT.out⟩, ⟨HXS.out.symm⟩, ⟨HTS.out.symm⟩, HE⟩, hm.out⟩)
     case b25413 =>
      (refine Kd.R_lit_step Kd.string (w0 := w) w.heap.size 9 (by rfl) (N := 57) (by rfl) (xs := [t0, t1]) (inner := [.string t0, .string t1]) (ok := fun _ => True) (okp := fun _ => True) ?hr (reps_texts _ _ _ [t0, t1]) (fun _ h => h) trivial HB.out HB.out.size (by simp) ?_; (case hr => first | (go_simp; done) | (go_simp; rfl)); intro vx w9 ho hb hg hat; (try replace FA := Aside0.mk (Kd.R_grown FA.out hg (fun _ _ => by simp))); (try replace FL := Aside0.mk (Kd.R_grown FL.out hg (fun _ _ => by simp))); replace FN := Aside0.mk (Kd.R_grown FN.out hg (fun _ _ => by simp)); replace FT := Aside0.mk (Kd.R_grown FT.out hg (fun _ _ => by simp)); replace HPB := Aside0.mk (blk_grown HPB.out hg (by simp)); replace H7 := Aside0.mk (blk_grown H7.out hg (by simp)); replace HL := Aside0.mk (blk_grown HL.out hg (by simp)); replace HB := Aside0.mk hb; obtain ⟨A57, c57, e9⟩ := Kd.R_slice ho; subst e9; have FL := Aside0.mk ho; clear ho hb hg hat)
      refine hK.out _ _ ?_ ?_
      ·intro _; exact ⟨HPB.out, H7.out⟩
      clear hK K
      try simp only [Act.put, s1_, s2_, s3_]
      refine AnyT.ready (rs := [4]) (by kernel_rfl) (by simp) (AllT.step rfl (fun K hK => ?b30104) AllT.nil)
      case b30104 =>
       (refine goes_ Try.func20 (by kernel_rfl) rfl #[.bool bq] (by rfl) rfl rfl (by (try simp only [List.map_toArray, List.map_cons, List.map_nil]); first | done | rfl) ?_; refine (one_calls bq _).mono ?_; rintro e w9 ⟨rfl, hb⟩; refine ⟨_, rfl, ?_⟩; (try replace FA := Aside0.mk (Kd.R_below FA.out hb)); (try replace FL := Aside0.mk (Kd.R_below FL.out hb)); replace FN := Aside0.mk (Kd.R_below FN.out hb); replace FT := Aside0.mk (Kd.R_below FT.out hb); replace HPB := Aside0.mk (blk_below HPB.out hb); replace H7 := Aside0.mk (blk_below H7.out hb); replace HL := Aside0.mk (blk_below HL.out hb); replace HB := Aside0.mk (below_step HB.out hb); clear hb)
       refine hK.out _ _ ?_ ?_
       ·intro _; exact ⟨HPB.out, H7.out⟩
       clear hK K
       try simp only [Act.put, s1_, s2_, s3_]
       refine AnyT.ready (rs := [5]) (by kernel_rfl) (by simp) (AllT.step rfl (fun K hK => ?b30305) AllT.nil)
       case b30305 =>
        (refine Kd.R_lit_step (Kd.int .i64) (w0 := w) w.heap.size 3 (by rfl) (N := 49) (by rfl) (xs := [(oneI bq)]) (inner := [.int .i64 (oneI bq)]) (ok := fun _ => True) (okp := fun _ => True) ?hr (reps_ints _ _ _ [(oneI bq)]) (fun _ h => h) trivial HB.out HB.out.size (by simp) ?_; (case hr => first | (go_simp; done) | (go_simp; rfl)); intro vx w9 ho hb hg hat; (try replace FA := Aside0.mk (Kd.R_grown FA.out hg (fun _ _ => by simp))); (try replace FL := Aside0.mk (Kd.R_grown FL.out hg (fun _ _ => by simp))); replace FN := Aside0.mk (Kd.R_grown FN.out hg (fun _ _ => by simp)); replace FT := Aside0.mk (Kd.R_grown FT.out hg (fun _ _ => by simp)); replace HPB := Aside0.mk (blk_grown HPB.out hg (by simp)); replace H7 := Aside0.mk (blk_grown H7.out hg (by simp)); replace HL := Aside0.mk (blk_grown HL.out hg (by simp)); replace HB := Aside0.mk hb; obtain ⟨A49, c49, e9⟩ := Kd.R_slice ho; subst e9; have FA := Aside0.mk ho; clear ho hb hg hat)
        refine hK.out _ _ ?_ ?_
        ·intro _; exact ⟨HPB.out, H7.out⟩
        clear hK K
        try simp only [Act.put, s1_, s2_, s3_]
        refine AnyT.ready (rs := [6]) (by kernel_rfl) (by simp) (AllT.step rfl (fun K hK => ?b30506) AllT.nil)
        case b30506 =>
         (refine Kd.R_append_rows_step (Kd.int .i64) (w0 := w) w.heap.size (by rfl) (.tmp 45) (.tmp 49) 46 3 (.int .i64 0) 8 (by rfl) Try.underlying46 info3 rfl (by decide) (by omega) (.slice AN xs.length cN) xs [(oneI bq)] _ _ _ (fun _ => True) (fun _ => False) (by rfl) (by rfl) FN.out (Kd.R_reads' FA.out).2.2 (fun _ _ h => h) (fun _ h => h.elim) (fun _ _ => trivial) HB.out HB.out.size (by have h1 := HXL.out; have h2 := HTL.out; simp only [List.length_cons, List.length_nil]; omega) ?_; intro vx w9 ho hb hg hat; (try replace FT := Aside0.mk (Kd.R_over FT.out FN.out (by decide) hg)); (try replace FL := Aside0.mk (Kd.R_over FL.out FN.out (by decide) hg)); replace HPB := Aside0.mk (blk_grown HPB.out hg (Kd.R_ne FN.out HPB.out (by decide))); replace H7 := Aside0.mk (blk_grown H7.out hg (Kd.R_ne FN.out H7.out (by decide))); replace HL := Aside0.mk (blk_grown HL.out hg (Kd.R_ne FN.out HL.out (by decide))); replace HB := Aside0.mk hb; obtain ⟨A50, c50, e9⟩ := Kd.R_slice ho; simp only [List.length_append, List.length_cons, List.length_nil, Nat.zero_add, Nat.reduceAdd] at e9; subst e9; replace FN := Aside0.mk ho; clear ho hb hg hat FA)
         refine hK.out _ _ ?_ ?_
         ·intro _; exact ⟨HPB.out, H7.out⟩
         clear hK K
         try simp only [Act.put, s1_, s2_, s3_]
         refine AnyT.taken (i := 15) (v := ?v307) rfl (by kernel_rfl) (by kernel_rfl) (by kernel_rfl) (by kernel_rfl) (fun _ _ _ h => h) (Or.inl ⟨by rfl, ?y307⟩) ?s307 ?_
         case y307 =>
          intro wSW hSW
          (have y0 : wSW.cell? ⟨gp, 0, none⟩ = some (.slice AN xs.length cN) := (blk_cell hSW.1 0).trans rfl; have y1 : wSW.cell? ⟨gp, 1, none⟩ = some (.slice AT ts.length cT) := (blk_cell hSW.1 1).trans rfl; have y2 : wSW.cell? ⟨g7, 0, none⟩ = some (.string t0) := (blk_cell hSW.2 0).trans rfl; have y3 : wSW.cell? ⟨g7, 1, none⟩ = some (.string t1) := (blk_cell hSW.2 1).trans rfl; have y4 : wSW.cell? ⟨g7, 2, none⟩ = some (.bool bq) := (blk_cell hSW.2 2).trans rfl; go_simp)
          all_goals with_reducible rfl
         case s307 => exact ⟨HPB.out, H7.out⟩
         try simp only [Act.put, s1_, s2_, s3_]
         refine AnyT.ready (rs := [14]) (by kernel_rfl) (by simp) (AllT.step rfl (fun K hK => ?b30814) AllT.nil)
         case b30814 =>
          (refine Kd.R_append_rows_step Kd.string (w0 := w) w.heap.size (by rfl) (.tmp 52) (.tmp 57) 22 9 (.string ⟨#[]⟩) 16 (by rfl) Try.underlying22 info9 rfl (by decide) (by omega) (.slice AT ts.length cT) ts [t0, t1] _ _ _ (fun _ => True) (fun _ => False) (by rfl) (by rfl) FT.out (Kd.R_reads' FL.out).2.2 (fun _ _ h => h) (fun _ h => h.elim) (fun _ _ => trivial) HB.out HB.out.size (by have h1 := HXL.out; have h2 := HTL.out; simp only [List.length_cons, List.length_nil]; omega) ?_; intro vx w9 ho hb hg hat; (try replace FN := Aside0.mk (Kd.R_over FN.out FT.out (by decide) hg)); replace HPB := Aside0.mk (blk_grown HPB.out hg (Kd.R_ne FT.out HPB.out (by decide))); replace H7 := Aside0.mk (blk_grown H7.out hg (Kd.R_ne FT.out H7.out (by decide))); replace HL := Aside0.mk (blk_grown HL.out hg (Kd.R_ne FT.out HL.out (by decide))); replace HB := Aside0.mk hb; obtain ⟨A58, c58, e9⟩ := Kd.R_slice ho; simp only [List.length_append, List.length_cons, List.length_nil, Nat.zero_add, Nat.reduceAdd] at e9; subst e9; replace FT := Aside0.mk ho; clear ho hb hg hat FL)
          refine hK.out _ _ ?_ ?_
          ·intro _; exact ⟨HPB.out, H7.out⟩
          clear hK K
          try simp only [Act.put, s1_, s2_, s3_]
          refine AnyT.ready (rs := [16]) (by kernel_rfl) (by simp) (AllT.step rfl (fun K hK => ?b31016) AllT.nil)
          case b31016 =>
           (have hs0 : w9.cell? ⟨gp, 0, none⟩ = some (.slice AN xs.length cN) := (blk_cell HPB.out 0).trans rfl; have hf0 := blk_frozen HPB.out 0; go_simp)
           refine hK.out _ _ ?_ ?_
           ·exact past (by kernel_rfl)
           clear hK K
           try simp only [Act.put, s1_, s2_, s3_]
           refine AnyT.ready (rs := [17]) (by kernel_rfl) (by simp) (AllT.step rfl (fun K hK => ?b31217) AllT.nil)
           case b31217 =>
            go_simp
            refine hK.out _ _ ?_ ?_
            ·exact past (by kernel_rfl)
            clear hK K
            try simp only [Act.put, s1_, s2_, s3_]
            refine AnyT.ready (rs := [18]) (by kernel_rfl) (by simp) (AllT.step rfl (fun K hK => ?b31418) AllT.nil)
            case b31418 =>
             (have hs1 : (w9.setCell ⟨gp, 0, none⟩ (.slice A50 (xs.length + 1) c50)).cell? ⟨gp, 1, none⟩ = some (.slice AT ts.length cT) := (blk_cell (blk_set HPB.out 0 (.slice A50 (xs.length + 1) c50)) 1).trans rfl; have hf1 := blk_frozen (blk_set HPB.out 0 (.slice A50 (xs.length + 1) c50)) 1; go_simp)
             refine hK.out _ _ ?_ ?_
             ·exact past (by kernel_rfl)
             clear hK K
             try simp only [Act.put, s1_, s2_, s3_]
             refine AnyT.done (by kernel_rfl) ?_ _
             refine NoPanic.normal ?_
             (have HE := Aside0.mk (PE.of HL.out HB.out FN.out FT.out HPB.out HG.out); have hm := Aside0.mk (round_less hx.out HLT.out); clear FN FT HPB HB H7 HL HG; go_wp2; rw [HW.out]; exact ⟨⟨i + 1, x + 1, xs ++ [(oneI bq)], ts ++ [t0, t1], _, _, rfl, HI, ⟨HLT.out⟩, ⟨HXS.out.symm⟩, ⟨HTS.out.symm⟩, HE⟩, hm.out⟩)
    ·have c1 : decide (x < (l0_8.length : Int)) = false := decide_eq_false (by omega)
     obtain rfl : i = l0_8.length := by omega
     have HC : Aside0 (pack_Encode.f k xs ts = some (r1, r2)) := ⟨by rw [hxs.out, hts.out, List.take_length]; exact HPK.out⟩
     clear HPK hxs hts hx hi hxi hile hlt
     obtain ⟨AN, cN, eN⟩ := Kd.R_slice HP.out.ns
     subst eN
     obtain ⟨AT, cT, eT⟩ := Kd.R_slice HP.out.ts
     subst eT
     have hp0 : wr.cell? ⟨gp, 0, none⟩ = some (.slice AN xs.length cN) := (blk_cell HP.out.bp 0).trans rfl
     have hp1 : wr.cell? ⟨gp, 1, none⟩ = some (.slice AT ts.length cT) := (blk_cell HP.out.bp 1).trans rfl
     go_wp2_with (go_at_call 21; refine (pack_Encode.calls k _ _ xs _ _ ts r1 r2 _ (Kd.R_reads' HP.out.ns).2.2 (Kd.R_reads' HP.out.ns).2.1 (Kd.R_reads' HP.out.ts).2.2 (Kd.R_reads' HP.out.ts).2.1 HC.out).mono ?_; rintro e w9 ⟨rfl, hb⟩; have HB9 := Aside0.mk (below_step HP.out.bel hb); clear hb)
     go_ret2
     exact ⟨rfl, HB9.out⟩
 ·rw [if_neg hl] at H
  cases H
end Go.Proofs.Ytbfjbcaabijpfaa.Al

namespace Go.Proofs.Ytbfjbcaabijpfaa.Al
open Go.RowKit Go.Proofs.Ytbfjbcaabijpfaa.Base Go.Proofs.YtbfjbcaabijpfaaW.PrintWords Go.Proofs.YtbfjbcaabijpfaaW.PrintLast Go.Proofs.YtbfjbcaabijpfaaW.PrintMore
set_option linter.unusedVariables false
set_option linter.unusedSimpArgs false
namespace RD
abbrev RLet := Int × Int × Int × Int × ByteArray × ByteArray × Bool × List ByteArray × List S50 × Int
def noLet : RLet := (0, 0, 0, 0, ⟨#[]⟩, ⟨#[]⟩, false, [], [], 80)
/-- The result's block gq, the pack's block gp. -/
structure QR (w0 W : World) (gq gp : Nat) (xs : List Int) (ts : List ByteArray) (vN vT : Value) : Prop where
 bq : W.heap[gq]? = some (.cells #[.int .i64 0, .int .i64 0, .int .i64 0, .int .i64 0, .string (⟨#[]⟩ : ByteArray), .string (⟨#[]⟩ : ByteArray), .bool false, .slice none 0 0, .slice none 0 0] 25 (0, 0))
 bp : W.heap[gp]? = some (.cells #[vN, vT] 48 (0, 0))
 geq : w0.heap.size ≤ gq
 gep : w0.heap.size ≤ gp
 ns : (Kd.int .i64).R 3 W w0.heap.size (fun _ => True) vN xs
 ts : Kd.string.R 9 W w0.heap.size (fun _ => True) vT ts
 bel : Below w0.heap.size w0 W
section
variable {w0 W : World} {gq gp : Nat} {xs : List Int} {ts : List ByteArray} {vN vT : Value}
theorem QR.below {W1 : World} (h : QR w0 W gq gp xs ts vN vT) (hb : Below W.heap.size W W1) : QR w0 W1 gq gp xs ts vN vT where
 bq := blk_below h.bq hb
 bp := blk_below h.bp hb
 geq := h.geq
 gep := h.gep
 ns := Kd.R_below h.ns hb
 ts := Kd.R_below h.ts hb
 bel := below_step h.bel hb
theorem QR.alloc (h : QR w0 W gq gp xs ts vN vT) (o : Obj) : QR w0 (W.alloc o) gq gp xs ts vN vT := h.below (below_alloc (Below.refl _ _) o)
theorem QR.drew (h : QR w0 W gq gp xs ts vN vT) : QR w0 W.drew gq gp xs ts vN vT := h.below (below_drew (Below.refl _ _))
end
/-- The empty letter and 70 come back. -/
def NoLetE (w : World) (e : Ending) (w' : World) : Prop := e = .returned (.tuple #[.agg #[.int .i64 0, .int .i64 0, .int .i64 0, .int .i64 0, .string (⟨#[]⟩ : ByteArray), .string (⟨#[]⟩ : ByteArray), .bool false, .slice none 0 0, .slice none 0 0], .int .i64 80]) ∧ Below w.heap.size w w'
theorem qr_of {w0 w2 w3 : World} {gq gp : Nat} {xs : List Int} {ts : List ByteArray} {vN vT : Value} (geq : w0.heap.size ≤ gq) (bq : w2.heap[gq]? = some (.cells #[.int .i64 0, .int .i64 0, .int .i64 0, .int .i64 0, .string (⟨#[]⟩ : ByteArray), .string (⟨#[]⟩ : ByteArray), .bool false, .slice none 0 0, .slice none 0 0] 25 (0, 0))) (bp : w3.heap[gp]? = some (.cells #[.slice none 0 0, .slice none 0 0] 48 (0, 0))) (hgp : gp = w2.heap.size) (hns : (Kd.int .i64).R 3 w2 w0.heap.size (fun _ => True) vN xs) (hts : Kd.string.R 9 w2 w0.heap.size (fun _ => True) vT ts) (hb : Below w0.heap.size w0 w2) (hb3 : Below w2.heap.size w2 w3) :
  QR w0 ((w3.setCell ⟨gp, 0, none⟩ vN).setCell ⟨gp, 1, none⟩ vT) gq gp xs ts vN vT := by
 have ge : w0.heap.size ≤ gp := by have := hb.size; omega
 have ne : gq ≠ gp := by have := blk_lt bq; omega
 have bp1 := blk_set bp 0 vN
 exact ⟨blk_far (blk_far (blk_below bq hb3) (p := ⟨gp, 0, none⟩) ne vN) (p := ⟨gp, 1, none⟩) ne vT, by simpa using blk_set bp1 1 vT, geq, ge, Kd.R_set (Kd.R_set (Kd.R_below hns hb3) bp (by decide) 0 vN) bp1 (by decide) 1 vT, Kd.R_set (Kd.R_set (Kd.R_below hts hb3) bp (by decide) 0 vN) bp1 (by decide) 1 vT, below_set (below_set (below_step hb hb3) ge) ge⟩
theorem set9 {w : World} {g t : Nat} {z0 z1 z2 z3 z4 z5 z6 z7 z8 c0 c1 c2 c3 c4 c5 c6 c7 c8 : Value} (h : w.heap[g]? = some (.cells #[z0, z1, z2, z3, z4, z5, z6, z7, z8] t (0, 0))) : (((((((((w.setCell ⟨g, 0, none⟩ c0).setCell ⟨g, 1, none⟩ c1).setCell ⟨g, 2, none⟩ c2).setCell ⟨g, 3, none⟩ c3).setCell ⟨g, 4, none⟩ c4).setCell ⟨g, 5, none⟩ c5).setCell ⟨g, 6, none⟩ c6).setCell ⟨g, 7, none⟩ c7).setCell ⟨g, 8, none⟩ c8).heap[g]? = some (.cells #[c0, c1, c2, c3, c4, c5, c6, c7, c8] t (0, 0)) := by
 have := blk_set (blk_set (blk_set (blk_set (blk_set (blk_set (blk_set (blk_set (blk_set h 0 c0) 1 c1) 2 c2) 3 c3) 4 c4) 5 c5) 6 c6) 7 c7) 8 c8
 simpa using this
theorem below9 {w W : World} {g : Nat} {c0 c1 c2 c3 c4 c5 c6 c7 c8 : Value} (h : Below w.heap.size w W) (hg : w.heap.size ≤ g) : Below w.heap.size w (((((((((W.setCell ⟨g, 0, none⟩ c0).setCell ⟨g, 1, none⟩ c1).setCell ⟨g, 2, none⟩ c2).setCell ⟨g, 3, none⟩ c3).setCell ⟨g, 4, none⟩ c4).setCell ⟨g, 5, none⟩ c5).setCell ⟨g, 6, none⟩ c6).setCell ⟨g, 7, none⟩ c7).setCell ⟨g, 8, none⟩ c8) :=
 below_set (below_set (below_set (below_set (below_set (below_set (below_set (below_set (below_set h hg) hg) hg) hg) hg) hg) hg) hg) hg
theorem keep9 {W : World} {g : Nat} {c0 c1 c2 c3 c4 c5 c6 c7 c8 : Value} : KeepBut W (((((((((W.setCell ⟨g, 0, none⟩ c0).setCell ⟨g, 1, none⟩ c1).setCell ⟨g, 2, none⟩ c2).setCell ⟨g, 3, none⟩ c3).setCell ⟨g, 4, none⟩ c4).setCell ⟨g, 5, none⟩ c5).setCell ⟨g, 6, none⟩ c6).setCell ⟨g, 7, none⟩ c7).setCell ⟨g, 8, none⟩ c8) g none :=
 ((((((((((KeepBut.refl W g none).set_ 0 c0).set_ 1 c1).set_ 2 c2).set_ 3 c3).set_ 4 c4).set_ 5 c5).set_ 6 c6).set_ 7 c7).set_ 8 c8)
/-- The write that flags and texts tell, and all of them. -/
def wOf (flags : List Int) (rest : List ByteArray) (j : Nat) : S50 := ⟨rdOf ByteArray.empty rest (2 * (j : Int)), rdOf ByteArray.empty rest (2 * (j : Int) + 1), rd flags (j : Int) == 1⟩
def wsOf (flags : List Int) (rest : List ByteArray) (i : Nat) : List S50 := (List.range i).map (wOf flags rest)
theorem ws_succ (flags : List Int) (rest : List ByteArray) (i : Nat) : wsOf flags rest (i + 1) = wsOf flags rest i ++ [wOf flags rest i] := by simp [wsOf, List.range_succ]
theorem ws_len (flags : List Int) (rest : List ByteArray) (i : Nat) : (wsOf flags rest i).length = i := by simp [wsOf]
theorem QR.set {w0 W : World} {gq gp g : Nat} {xs : List Int} {ts : List ByteArray} {vN vT : Value} {cells : Array Value} (h : QR w0 W gq gp xs ts vN vT) (hb : W.heap[g]? = some (.cells cells 25 (0, 0))) (hg : w0.heap.size ≤ g) (hne : gq ≠ g) (hne' : gp ≠ g) (j : Nat) (u : Value) : QR w0 (W.setCell ⟨g, j, none⟩ u) gq gp xs ts vN vT :=
 ⟨blk_far h.bq (p := ⟨g, j, none⟩) hne u, blk_far h.bp (p := ⟨g, j, none⟩) hne' u, h.geq, h.gep, Kd.R_set h.ns hb (by decide) j u, Kd.R_set h.ts hb (by decide) j u, below_set h.bel hg⟩
theorem ncell {W : World} {base g c : Nat} {ns : List Int} (h : (Kd.int .i64).R 3 W base (fun _ => True) (.slice (some ⟨g, 0, none⟩) ns.length c) ns) (i : Nat) (hi : i < ns.length) : W.cell? ⟨g, i, none⟩ = some (.int .i64 (rd ns (i : Int))) := (Kd.R_cell (0 : Int) h (i : Int) (by omega) (by omega)).1
theorem tcell {W : World} {base g c : Nat} {ts : List ByteArray} (h : Kd.string.R 9 W base (fun _ => True) (.slice (some ⟨g, 0, none⟩) ts.length c) ts) (i : Nat) (hi : i < ts.length) : W.cell? ⟨g, i, none⟩ = some (.string (rdOf ByteArray.empty ts (i : Int))) := (Kd.R_cell ByteArray.empty h (i : Int) (by omega) (by omega)).1
theorem clone_len {A0 : Option Addr} {c0 n0 : Nat} {l0 : List ByteArray} {w : World} (h0 : n0 = l0.length) (hr0 : Kd.C Kd.string w A0 l0.length l0) (hc0 : l0.length ≤ c0) (hl : l0.length < 8796093022208) :
  Calls Try.prog 37 #[.slice A0 n0 c0] w fun e w' => ∃ v0_ : Value, e = .returned v0_ ∧ Kd.R Kd.string 9 w' w.heap.size (fun _ => True) v0_ l0 ∧ Below w.heap.size w w' := by
 subst h0
 exact slices_CloneT.calls A0 c0 l0 l0 w hr0 hc0 (if_pos hl)
theorem enc_len {k : Nat} {x0 x1 x2 x3 : Int} {x4 x5 : ByteArray} {x6 : Bool} {A7 : Option Addr} {c7 n7 : Nat} {l7 : List ByteArray} {A8 : Option Addr} {c8 : Nat} {l8 : List S50} {r1 : ByteArray} {r2 : Int} {w : World} (h7 : n7 = l7.length) (hr7 : Kd.C Kd.string w A7 l7.length l7) (hc7 : l7.length ≤ c7) (hr8 : Kd.C k50 w A8 l8.length l8) (hc8 : l8.length ≤ c8) (h : record_Encode.f k x0 x1 x2 x3 x4 x5 x6 l7 l8 = some (r1, r2)) :
  Calls Try.prog 9 #[.agg #[.int .i64 x0, .int .i64 x1, .int .i64 x2, .int .i64 x3, .string x4, .string x5, .bool x6, .slice A7 n7 c7, .slice A8 l8.length c8]] w fun e w' => e = .returned (.tuple #[.string r1, .int .i64 r2]) ∧ Below w.heap.size w w' := by
 subst h7
 exact record_Encode.calls k x0 x1 x2 x3 x4 x5 x6 A7 c7 l7 A8 c8 l8 r1 r2 w hr7 hc7 hr8 hc8 h
/-- A letter under way at block gl. -/
structure PL (w0 W : World) (gq gp gl : Nat) (ns : List Int) (ts : List ByteArray) (vN vT : Value) (x0 x1 x2 x3 : Int) (x4 x5 : ByteArray) (x6 : Bool) (ks : List ByteArray) (vK : Value) (ws : List S50) (vW : Value) : Prop where
 q : QR w0 W gq gp ns ts vN vT
 bl : W.heap[gl]? = some (.cells #[.int .i64 x0, .int .i64 x1, .int .i64 x2, .int .i64 x3, .string x4, .string x5, .bool x6, vK, vW] 25 (0, 0))
 gel : w0.heap.size ≤ gl
 nq : gq ≠ gl
 np : gp ≠ gl
 kr : Kd.string.R 9 W w0.heap.size (fun _ => True) vK ks
 wr : k50.R 50 W w0.heap.size (fun _ => True) vW ws
section
variable {w0 W : World} {gq gp gl : Nat} {ns : List Int} {ts : List ByteArray} {vN vT : Value} {x0 x1 x2 x3 : Int} {x4 x5 : ByteArray} {x6 : Bool} {ks : List ByteArray} {vK : Value} {ws : List S50} {vW : Value}
theorem PL.below {W1 : World} (h : PL w0 W gq gp gl ns ts vN vT x0 x1 x2 x3 x4 x5 x6 ks vK ws vW) (hb : Below W.heap.size W W1) : PL w0 W1 gq gp gl ns ts vN vT x0 x1 x2 x3 x4 x5 x6 ks vK ws vW :=
 ⟨h.q.below hb, blk_below h.bl hb, h.gel, h.nq, h.np, Kd.R_below h.kr hb, Kd.R_below h.wr hb⟩
theorem PL.drew (h : PL w0 W gq gp gl ns ts vN vT x0 x1 x2 x3 x4 x5 x6 ks vK ws vW) : PL w0 W.drew gq gp gl ns ts vN vT x0 x1 x2 x3 x4 x5 x6 ks vK ws vW := h.below (below_drew (Below.refl _ _))
theorem PL.alloc (h : PL w0 W gq gp gl ns ts vN vT x0 x1 x2 x3 x4 x5 x6 ks vK ws vW) (o : Obj) : PL w0 (W.alloc o) gq gp gl ns ts vN vT x0 x1 x2 x3 x4 x5 x6 ks vK ws vW := h.below (below_alloc (Below.refl _ _) o)
theorem PL.push {v1 : Value} {w1 : World} {ys : List S50} (h : PL w0 W gq gp gl ns ts vN vT x0 x1 x2 x3 x4 x5 x6 ks vK ws vW) (ho : k50.R 50 w1 w0.heap.size (fun _ => True) v1 ys) (hb : Below w0.heap.size w0 w1) (hg : W.grownBy w1 vW.ownBlock) :
  w1.heap[gl]? = some (.cells #[.int .i64 x0, .int .i64 x1, .int .i64 x2, .int .i64 x3, .string x4, .string x5, .bool x6, vK, vW] 25 (0, 0)) ∧ PL w0 (w1.setCell ⟨gl, 8, none⟩ v1) gq gp gl ns ts vN vT x0 x1 x2 x3 x4 x5 x6 ks vK ys v1 := by
 have b1 := blk_grown h.bl hg (Kd.R_ne h.wr h.bl (by decide))
 have q1 : QR w0 w1 gq gp ns ts vN vT := ⟨blk_grown h.q.bq hg (Kd.R_ne h.wr h.q.bq (by decide)), blk_grown h.q.bp hg (Kd.R_ne h.wr h.q.bp (by decide)), h.q.geq, h.q.gep, Kd.R_over h.q.ns h.wr (by decide) hg, Kd.R_over h.q.ts h.wr (by decide) hg, hb⟩
 exact ⟨b1, q1.set b1 h.gel h.nq h.np 8 v1, by simpa using blk_set b1 8 v1, h.gel, h.nq, h.np, Kd.R_set (Kd.R_over h.kr h.wr (by decide) hg) b1 (by decide) 8 v1, Kd.R_set ho b1 (by decide) 8 v1⟩
end
section
variable {w0 W : World} {gq gp : Nat} {ns : List Int} {ts : List ByteArray} {vN vT : Value} {x0 x1 x2 x3 : Int} {x4 x5 : ByteArray} {x6 : Bool} {ks : List ByteArray} {vK : Value}
theorem PL.new (hq : QR w0 W gq gp ns ts vN vT) (hk : Kd.string.R 9 W w0.heap.size (fun _ => True) vK ks) : PL w0 (W.alloc (.cells #[.int .i64 x0, .int .i64 x1, .int .i64 x2, .int .i64 x3, .string x4, .string x5, .bool x6, vK, .slice none 0 0] 25)) gq gp W.heap.size ns ts vN vT x0 x1 x2 x3 x4 x5 x6 ks vK [] (.slice none 0 0) :=
 ⟨hq.alloc _, blk_new W _, hq.bel.size, by have := blk_lt hq.bq; omega, by have := blk_lt hq.bp; omega, Kd.R_alloc hk _, Kd.R_nil _ _ _ _ _⟩
theorem PL.nine {g : Nat} (hq : QR w0 W gq gp ns ts vN vT) (hb : W.heap[g]? = some (.cells #[.int .i64 0, .int .i64 0, .int .i64 0, .int .i64 0, .string (⟨#[]⟩ : ByteArray), .string (⟨#[]⟩ : ByteArray), .bool false, .slice none 0 0, .slice none 0 0] 25 (0, 0))) (hg : w0.heap.size ≤ g) (nq : gq ≠ g) (np : gp ≠ g) (hk : Kd.string.R 9 W w0.heap.size (fun _ => True) vK ks) :
  PL w0 (((((((((W.setCell ⟨g, 0, none⟩ (.int .i64 x0)).setCell ⟨g, 1, none⟩ (.int .i64 x1)).setCell ⟨g, 2, none⟩ (.int .i64 x2)).setCell ⟨g, 3, none⟩ (.int .i64 x3)).setCell ⟨g, 4, none⟩ (.string x4)).setCell ⟨g, 5, none⟩ (.string x5)).setCell ⟨g, 6, none⟩ (.bool x6)).setCell ⟨g, 7, none⟩ vK).setCell ⟨g, 8, none⟩ (.slice none 0 0)) gq gp g ns ts vN vT x0 x1 x2 x3 x4 x5 x6 ks vK [] (.slice none 0 0) :=
 ⟨⟨((keep9 (W := W) (g := g)).2 gq (blk_lt hq.bq) nq (by simp)).trans hq.bq, ((keep9 (W := W) (g := g)).2 gp (blk_lt hq.bp) np (by simp)).trans hq.bp, hq.geq, hq.gep, Kd.R_mono (Kd.R_keep (Kd.R_types hq.ns hb (by decide)) keep9 (fun _ hk => hk.2)) (fun _ _ => trivial), Kd.R_mono (Kd.R_keep (Kd.R_types hq.ts hb (by decide)) keep9 (fun _ hk => hk.2)) (fun _ _ => trivial), below9 hq.bel hg⟩, set9 hb, hg, nq, np, Kd.R_mono (Kd.R_keep (Kd.R_types hk hb (by decide)) keep9 (fun _ hk => hk.2)) (fun _ _ => trivial), Kd.R_nil _ _ _ _ _⟩
end
theorem c9f {w : World} {g t : Nat} {c0 c1 c2 c3 c4 c5 c6 c7 c8 : Value} (h : w.heap[g]? = some (.cells #[c0, c1, c2, c3, c4, c5, c6, c7, c8] t (0, 0))) : w.cell? ⟨g, 0, none⟩ = some c0 ∧ w.frozen? ⟨g, 0, none⟩ = false ∧ w.cell? ⟨g, 1, none⟩ = some c1 ∧ w.frozen? ⟨g, 1, none⟩ = false ∧ w.cell? ⟨g, 2, none⟩ = some c2 ∧ w.frozen? ⟨g, 2, none⟩ = false ∧ w.cell? ⟨g, 3, none⟩ = some c3 ∧ w.frozen? ⟨g, 3, none⟩ = false ∧ w.cell? ⟨g, 4, none⟩ = some c4 ∧ w.frozen? ⟨g, 4, none⟩ = false ∧ w.cell? ⟨g, 5, none⟩ = some c5 ∧ w.frozen? ⟨g, 5, none⟩ = false ∧ w.cell? ⟨g, 6, none⟩ = some c6 ∧ w.frozen? ⟨g, 6, none⟩ = false ∧ w.cell? ⟨g, 7, none⟩ = some c7 ∧ w.frozen? ⟨g, 7, none⟩ = false ∧ w.cell? ⟨g, 8, none⟩ = some c8 ∧ w.frozen? ⟨g, 8, none⟩ = false := ⟨(blk_cell h 0).trans rfl, blk_frozen h 0, (blk_cell h 1).trans rfl, blk_frozen h 1, (blk_cell h 2).trans rfl, blk_frozen h 2, (blk_cell h 3).trans rfl, blk_frozen h 3, (blk_cell h 4).trans rfl, blk_frozen h 4, (blk_cell h 5).trans rfl, blk_frozen h 5, (blk_cell h 6).trans rfl, blk_frozen h 6, (blk_cell h 7).trans rfl, blk_frozen h 7, (blk_cell h 8).trans rfl, blk_frozen h 8⟩
theorem c9 {w : World} {g t : Nat} {c0 c1 c2 c3 c4 c5 c6 c7 c8 : Value} (h : w.heap[g]? = some (.cells #[c0, c1, c2, c3, c4, c5, c6, c7, c8] t (0, 0))) : w.cell? ⟨g, 0, none⟩ = some c0 ∧ w.cell? ⟨g, 1, none⟩ = some c1 ∧ w.cell? ⟨g, 2, none⟩ = some c2 ∧ w.cell? ⟨g, 3, none⟩ = some c3 ∧ w.cell? ⟨g, 4, none⟩ = some c4 ∧ w.cell? ⟨g, 5, none⟩ = some c5 ∧ w.cell? ⟨g, 6, none⟩ = some c6 ∧ w.cell? ⟨g, 7, none⟩ = some c7 ∧ w.cell? ⟨g, 8, none⟩ = some c8 := ⟨(blk_cell h 0).trans rfl, (blk_cell h 1).trans rfl, (blk_cell h 2).trans rfl, (blk_cell h 3).trans rfl, (blk_cell h 4).trans rfl, (blk_cell h 5).trans rfl, (blk_cell h 6).trans rfl, (blk_cell h 7).trans rfl, (blk_cell h 8).trans rfl⟩
set_option maxHeartbeats 4000000 in
set_option maxRecDepth 100000 in
theorem ld_no (s : ByteArray) (ns : List Int) (ts : List ByteArray) (p e : Int) (w : World) (hf : pack_Decode.f s = some (ns, ts, p, e)) (hb : ts.length ≤ 1024) (hbn : ns.length ≤ 1024) (hno : e = 0 → 6 ≤ ns.length → 2 ≤ ts.length → 0 ≤ rd ns 5 → rd ns 5 ≤ (ts.length : Int) - 2 → (ts.length : Int) ≠ 2 + rd ns 5 + 2 * ((ns.length - 6 : Nat) : Int)) :
  Calls Try.prog 18 #[.string s] w (NoLetE w) := by
 have hu25 := Try.underlying25
 have hu48 := Try.underlying48
 have HF := Aside0.mk hf
 have HNO := Aside0.mk hno
 have HL := Aside0.mk hb
 have HLN := Aside0.mk hbn
 clear hf hno hb hbn
 go_enter Try.func18, Try.ntmps18
 go_upto_region 2 with (first | ((with_reducible refine gate_dst (N := 2) rfl ?_); refine box_event ?hg (N := 2) ?hd (cs := #[.int .i64 0, .int .i64 0, .int .i64 0, .int .i64 0, .string (⟨#[]⟩ : ByteArray), .string (⟨#[]⟩ : ByteArray), .bool false, .slice none 0 0, .slice none 0 0]) (t := 25) ?hr ?_; (case hd => rfl); (case hg => rfl); (case hr => first | (go_simp; done) | (go_simp; rfl)); intro gq hgg w1 hbox hb; have GQ := Aside0.mk (Nat.le_of_eq hgg.symm); have BQ := Aside0.mk hbox; have BA := Aside0.mk hb; clear hgg hbox hb) | (go_at_call 36; refine (pack_Decode.calls s _ _ _ _ _ HF.out).mono ?_; rintro x w2 ⟨v0, v1, rfl, hN, hT, hb⟩; obtain ⟨AN, cN, eN⟩ := Kd.R_slice hN; subst eN; obtain ⟨AT, cT, eT⟩ := Kd.R_slice hT; subst eT; have GN := Aside0.mk (Kd.R_lower hN (below_size BA.out)); have GT := Aside0.mk (Kd.R_lower hT (below_size BA.out)); have BC := Aside0.mk (below_step BA.out hb); have BQ2 := Aside0.mk (blk_below BQ.out hb); clear hN hT hb) | ((with_reducible refine gate_dst (N := 4) rfl ?_); refine box_event ?hg (N := 4) ?hd (cs := #[.slice none 0 0, .slice none 0 0]) (t := 48) ?hr ?_; (case hd => rfl); (case hg => rfl); (case hr => first | (go_simp; done) | (go_simp; rfl)); intro gp hgp w3 hbox hb; have HQ := Aside0.mk (qr_of GQ.out BQ2.out hbox hgp GN.out GT.out BC.out hb); have hz0 : w3.cell? ⟨gp, 0, none⟩ = some (.slice none 0 0) := (blk_cell hbox 0).trans rfl; have hz1 : w3.cell? ⟨gp, 1, none⟩ = some (.slice none 0 0) := (blk_cell hbox 1).trans rfl; have hzf0 := blk_frozen hbox 0; have hzf1 := blk_frozen hbox 1; clear hgp hbox hb))
 generalize eW : (w3.setCell ⟨gp, 0, none⟩ (.slice AN ns.length cN)).setCell ⟨gp, 1, none⟩ (.slice AT ts.length cT) = W at HQ ⊢
 clear eW hz0 hz1 hzf0 hzf1 GN GT BC BQ2 BQ BA GQ
 have hP0 : W.cell? ⟨gp, 0, none⟩ = some (.slice AN ns.length cN) := (blk_cell HQ.out.bp 0).trans rfl
 have hP1 : W.cell? ⟨gp, 1, none⟩ = some (.slice AT ts.length cT) := (blk_cell HQ.out.bp 1).trans rfl
 obtain ⟨hq0, hqf0, hq1, hqf1, hq2, hqf2, hq3, hqf3, hq4, hqf4, hq5, hqf5, hq6, hqf6, hq7, hqf7, hq8, hqf8⟩ := c9f HQ.out.bq
 by_cases he : e = 0
 rotate_left
 ·have e1 : (e == 0) = false := beq_eq_false_iff_ne.2 he
  have e2 : (e != 0) = true := bne_iff_ne.2 he
  clear he HNO
  go_wp2
  refine bodyPost_ret (results_ct rfl _ _ gq 25 #[.int .i64 0, .int .i64 0, .int .i64 0, .int .i64 0, .string (⟨#[]⟩ : ByteArray), .string (⟨#[]⟩ : ByteArray), .bool false, .slice none 0 0, .slice none 0 0] (0, 0) _ rfl (set9 HQ.out.bq) Try.underlying25 rfl (by kernel_rfl)) rfl ?_
  exact ⟨rfl, below9 HQ.out.bel HQ.out.geq⟩
 subst he
 by_cases hn : ns.length < 6
 ·have e1 : decide ((ns.length : Int) < 6) = true := decide_eq_true (by omega)
  have e2 : decide (ns.length < 6) = true := decide_eq_true hn
  clear hn HNO
  go_wp2
  refine bodyPost_ret (results_ct rfl _ _ gq 25 #[.int .i64 0, .int .i64 0, .int .i64 0, .int .i64 0, .string (⟨#[]⟩ : ByteArray), .string (⟨#[]⟩ : ByteArray), .bool false, .slice none 0 0, .slice none 0 0] (0, 0) _ rfl (set9 HQ.out.bq) Try.underlying25 rfl (by kernel_rfl)) rfl ?_
  exact ⟨rfl, below9 HQ.out.bel HQ.out.geq⟩
 have e1 : decide ((ns.length : Int) < 6) = false := decide_eq_false (by omega)
 have e2 : decide (ns.length < 6) = false := decide_eq_false (by omega)
 by_cases ht : ts.length < 2
 ·have t3 : decide ((ts.length : Int) < 2) = true := decide_eq_true (by omega)
  have t4 : decide (ts.length < 2) = true := decide_eq_true ht
  clear hn ht HNO
  go_wp2
  refine bodyPost_ret (results_ct rfl _ _ gq 25 #[.int .i64 0, .int .i64 0, .int .i64 0, .int .i64 0, .string (⟨#[]⟩ : ByteArray), .string (⟨#[]⟩ : ByteArray), .bool false, .slice none 0 0, .slice none 0 0] (0, 0) _ rfl (set9 HQ.out.bq) Try.underlying25 rfl (by kernel_rfl)) rfl ?_
  exact ⟨rfl, below9 HQ.out.bel HQ.out.geq⟩
 have e3 : decide ((ts.length : Int) < 2) = false := decide_eq_false (by omega)
 have e4 : decide (ts.length < 2) = false := decide_eq_false (by omega)
 have e5 : ¬ (ts.length = 0) := by omega
 have e6 : ¬ (ts = []) := fun h => by rw [h] at ht; exact absurd ht (by decide)
 have hl7 : 6 ≤ ns.length := by omega
 have hl1 : 2 ≤ ts.length := by omega
 have hb := HL.out
 have hbn := HLN.out
 have HX : Aside0 (0 ≤ rd ns 5 → rd ns 5 ≤ (ts.length : Int) - 2 → (ts.length : Int) ≠ 2 + rd ns 5 + 2 * ((ns.length - 6 : Nat) : Int)) := ⟨HNO.out rfl hl7 hl1⟩
 clear hn ht HNO
 obtain ⟨gn, cn, eN, gnb, gnl, cellsN, hcN⟩ := Kd.R_form HQ.out.ns (by omega)
 obtain ⟨gt, ct, eT, gtb, gtl, cellsT, hcT⟩ := Kd.R_form HQ.out.ts (by omega)
 have eN' : AN = some ⟨gn, 0, none⟩ ∧ cN = cn := by simpa using eN
 have eT' : AT = some ⟨gt, 0, none⟩ ∧ cT = ct := by simpa using eT
 obtain ⟨rfl, rfl⟩ := eN'
 obtain ⟨rfl, rfl⟩ := eT'
 obtain ⟨_, hcapN, hCN⟩ := Kd.R_reads' HQ.out.ns
 obtain ⟨_, hcapT, hCT⟩ := Kd.R_reads' HQ.out.ts
 clear eN eT hcN hcT gnb gnl gtb gtl
 obtain ⟨_, eA, hn0⟩ := Kd.at_int hCN 0 (by decide) (by omega)
 cases eA
 replace hn0 : W.cell? ⟨gn, 0, none⟩ = some (.int .i64 (rd ns 0)) := by simpa [add_plain] using hn0
 obtain ⟨_, eA, hn1⟩ := Kd.at_int hCN 1 (by decide) (by omega)
 cases eA
 replace hn1 : W.cell? ⟨gn, 1, none⟩ = some (.int .i64 (rd ns 1)) := by simpa [add_plain] using hn1
 obtain ⟨_, eA, hn2⟩ := Kd.at_int hCN 2 (by decide) (by omega)
 cases eA
 replace hn2 : W.cell? ⟨gn, 2, none⟩ = some (.int .i64 (rd ns 2)) := by simpa [add_plain] using hn2
 obtain ⟨_, eA, hn3⟩ := Kd.at_int hCN 3 (by decide) (by omega)
 cases eA
 replace hn3 : W.cell? ⟨gn, 3, none⟩ = some (.int .i64 (rd ns 3)) := by simpa [add_plain] using hn3
 obtain ⟨_, eA, hn4⟩ := Kd.at_int hCN 4 (by decide) (by omega)
 cases eA
 replace hn4 : W.cell? ⟨gn, 4, none⟩ = some (.int .i64 (rd ns 4)) := by simpa [add_plain] using hn4
 obtain ⟨_, eA, hn5⟩ := Kd.at_int hCN 5 (by decide) (by omega)
 cases eA
 replace hn5 : W.cell? ⟨gn, 5, none⟩ = some (.int .i64 (rd ns 5)) := by simpa [add_plain] using hn5
 obtain ⟨_, eA, ht0⟩ := Kd.at_string hCT 0 (by decide) (by omega)
 cases eA
 replace ht0 : W.cell? ⟨gt, 0, none⟩ = some (.string (rdOf ByteArray.empty ts 0)) := by simpa [add_plain] using ht0
 obtain ⟨_, eA, ht1⟩ := Kd.at_string hCT 1 (by decide) (by omega)
 cases eA
 replace ht1 : W.cell? ⟨gt, 1, none⟩ = some (.string (rdOf ByteArray.empty ts 1)) := by simpa [add_plain] using ht1
 go_wp2
 obtain ⟨i3, hi3, hz3⟩ := Option.map_eq_some_iff.1 info3
 have hs3 : i3.size = 1 := by simpa using congrArg (fun x => x.2.1) hz3
 have hcutN := fun W => cut_from (P := Try.prog) 46 3 .i64 Try.underlying46 hi3 1 hs3 (some ⟨gn, 0, none⟩) ns.length cN 6 (by decide) (by omega) W
 have hsameN : (if cN = (6 : Int).toNat then (some ⟨gn, 0, none⟩ : Option Addr) else (some ⟨gn, 0, none⟩ : Option Addr).map (·.add ((6 : Int).toNat * 1))) = (if cN = 6 then (some ⟨gn, 0, none⟩ : Option Addr) else (some ⟨gn, 0, none⟩ : Option Addr).map (·.add (6 * (Kd.int .i64).sz))) := rfl
 rw [hsameN] at hcutN
 obtain ⟨AF, hAF⟩ : ∃ A, A = (if cN = 6 then (some ⟨gn, 0, none⟩ : Option Addr) else (some ⟨gn, 0, none⟩ : Option Addr).map (·.add (6 * (Kd.int .i64).sz))) := ⟨_, rfl⟩
 rw [← hAF] at hcutN
 have HMF : Aside0 (∀ W', (Kd.int .i64).C W' (some ⟨gn, 0, none⟩) ns.length ns → (Kd.int .i64).C W' AF (ns.drop 6).length (ns.drop 6)) := ⟨fun W' h => by rw [hAF]; exact Kd.C_drop (m := 6) h (by omega) hcapN⟩
 have q5 : (6 : Int) ≤ (ns.length : Int) := by omega
 have j5_ : (5 : Int) < (ns.length : Int) := by omega
 have jj5_ : 5 < ns.length := by omega
 have jn : ¬ (ns = []) := fun h => by rw [h] at hl7; exact absurd hl7 (by decide)
 have HCAPN := Aside0.mk hcapN
 have HCAP := Aside0.mk hcapT
 clear hsameN hAF hs3 hz3 hi3 hcapN hcapT hCN hCT
 go_region_held3 (fun W => W.cell? ⟨gp, 0, none⟩ = some (.slice (some ⟨gn, 0, none⟩) ns.length cN) ∧ W.cell? ⟨gn, 5, none⟩ = some (.int .i64 (rd ns 5))) (go_keep) (fail)
 have HQ1 := Aside0.mk HQ.out.drew
 generalize eW : W.drew = W1 at HQ1 ⊢
 clear eW HQ hP0 hP1 hn0 hn1 hn2 hn3 hn4 hn5 ht0 ht1 hq0 hqf0 hq1 hqf1 hq2 hqf2 hq3 hqf3 hq4 hqf4 hq5 hqf5 hq6 hqf6 hq7 hqf7 hq8 hqf8
 obtain ⟨hq0, hqf0, hq1, hqf1, hq2, hqf2, hq3, hqf3, hq4, hqf4, hq5, hqf5, hq6, hqf6, hq7, hqf7, hq8, hqf8⟩ := c9f HQ1.out.bq
 have hP0 : W1.cell? ⟨gp, 0, none⟩ = some (.slice (some ⟨gn, 0, none⟩) ns.length cN) := (blk_cell HQ1.out.bp 0).trans rfl
 have hP1 : W1.cell? ⟨gp, 1, none⟩ = some (.slice (some ⟨gt, 0, none⟩) ts.length cT) := (blk_cell HQ1.out.bp 1).trans rfl
 by_cases hm : rd ns 5 < 0
 ·have m1 : decide (rd ns 5 < 0) = true := decide_eq_true hm
  clear hm HX
  go_wp2
  refine bodyPost_ret (results_ct rfl _ _ gq 25 #[.int .i64 0, .int .i64 0, .int .i64 0, .int .i64 0, .string (⟨#[]⟩ : ByteArray), .string (⟨#[]⟩ : ByteArray), .bool false, .slice none 0 0, .slice none 0 0] (0, 0) _ rfl (set9 HQ1.out.bq) Try.underlying25 rfl (by kernel_rfl)) rfl ?_
  exact ⟨rfl, below9 HQ1.out.bel HQ1.out.geq⟩
 have m1 : decide (rd ns 5 < 0) = false := decide_eq_false (by omega)
 by_cases hm2 : (ts.length : Int) - 2 < rd ns 5
 ·have m2 : decide ((ts.length : Int) - 2 < rd ns 5) = true := decide_eq_true hm2
  clear hm hm2 HX
  go_wp2
  refine bodyPost_ret (results_ct rfl _ _ gq 25 #[.int .i64 0, .int .i64 0, .int .i64 0, .int .i64 0, .string (⟨#[]⟩ : ByteArray), .string (⟨#[]⟩ : ByteArray), .bool false, .slice none 0 0, .slice none 0 0] (0, 0) _ rfl (set9 HQ1.out.bq) Try.underlying25 rfl (by kernel_rfl)) rfl ?_
  exact ⟨rfl, below9 HQ1.out.bel HQ1.out.geq⟩
 have m2 : decide ((ts.length : Int) - 2 < rd ns 5) = false := decide_eq_false (by omega)
 have hx := HX.out (by omega) (by omega)
 have mb : rd ns 5 ≤ 1024 := by omega
 have m3 : ((ts.length : Int) == 2 + rd ns 5 + 2 * ((ns.length - 6 : Nat) : Int)) = false := beq_eq_false_iff_ne.2 hx
 have m4 : ((ts.length : Int) != 2 + rd ns 5 + 2 * ((ns.length - 6 : Nat) : Int)) = true := bne_iff_ne.2 hx
 clear hx HX
 go_wp2
 refine bodyPost_ret (results_ct rfl _ _ gq 25 #[.int .i64 0, .int .i64 0, .int .i64 0, .int .i64 0, .string (⟨#[]⟩ : ByteArray), .string (⟨#[]⟩ : ByteArray), .bool false, .slice none 0 0, .slice none 0 0] (0, 0) _ rfl (set9 HQ1.out.bq) Try.underlying25 rfl (by kernel_rfl)) rfl ?_
 exact ⟨rfl, below9 HQ1.out.bel HQ1.out.geq⟩
/-- What comes back, with its memory. -/
def RLetE (w : World) (r : RLet) (e : Ending) (w' : World) : Prop := ∃ v7 v8 : Value, e = .returned (.tuple #[.agg #[.int .i64 r.1, .int .i64 r.2.1, .int .i64 r.2.2.1, .int .i64 r.2.2.2.1, .string r.2.2.2.2.1, .string r.2.2.2.2.2.1, .bool r.2.2.2.2.2.2.1, v7, v8], .int .i64 r.2.2.2.2.2.2.2.2.2]) ∧ Kd.R Kd.string 9 w' w.heap.size (fun _ => True) v7 r.2.2.2.2.2.2.2.1 ∧ Kd.R k50 50 w' w.heap.size (fun _ => True) v8 r.2.2.2.2.2.2.2.2.1 ∧ Below w.heap.size w w'
set_option maxHeartbeats 4000000 in
set_option maxRecDepth 100000 in
theorem ld_go (s : ByteArray) (ns : List Int) (ts : List ByteArray) (p : Int) (w : World) (hf : pack_Decode.f s = some (ns, ts, p, 0)) (hn : 6 ≤ ns.length) (ht : 2 ≤ ts.length) (hb : ts.length ≤ 1024) (hbn : ns.length ≤ 1024) (hm : 0 ≤ rd ns 5) (hm2 : rd ns 5 ≤ (ts.length : Int) - 2) (hx : (ts.length : Int) = 2 + rd ns 5 + 2 * ((ns.length - 6 : Nat) : Int)) (k : Nat) (bb : ByteArray) (ee : Int) (hen : record_Encode.f k (rd ns 0) (rd ns 1) (rd ns 2) (rd ns 3) (rdOf ByteArray.empty ts 0) (rdOf ByteArray.empty ts 1) (rd ns 4 == 1) ((ts.take (2 + rd ns 5).toNat).drop 2) (wsOf (ns.drop 6) (ts.drop (2 + rd ns 5).toNat) (ns.length - 6)) = some (bb, ee)) (r : RLet) (HRR : (if ee = 0 ∧ bb = s then (((rd ns 0), (rd ns 1), (rd ns 2), (rd ns 3), (rdOf ByteArray.empty ts 0), (rdOf ByteArray.empty ts 1), (rd ns 4 == 1), ((ts.take (2 + rd ns 5).toNat).drop 2), wsOf (ns.drop 6) (ts.drop (2 + rd ns 5).toNat) (ns.length - 6), 0) : RLet) else noLet) = r) :
  Calls Try.prog 18 #[.string s] w (RLetE w r) := by
 have e1 : decide ((ns.length : Int) < 6) = false := decide_eq_false (by omega)
 have e2 : decide (ns.length < 6) = false := decide_eq_false (by omega)
 have e3 : decide ((ts.length : Int) < 2) = false := decide_eq_false (by omega)
 have e4 : decide (ts.length < 2) = false := decide_eq_false (by omega)
 have e5 : ¬ (ts.length = 0) := by omega
 have e6 : ¬ (ts = []) := fun h => by rw [h] at ht; exact absurd ht (by decide)
 have hl7 := hn
 have hl1 := ht
 have m1 : decide (rd ns 5 < 0) = false := decide_eq_false (by omega)
 have m2 : decide ((ts.length : Int) - 2 < rd ns 5) = false := decide_eq_false (by omega)
 have mb : rd ns 5 ≤ 1024 := by omega
 have HX := Aside0.mk hx
 have m3 : ((ts.length : Int) == 2 + rd ns 5 + 2 * ((ns.length - 6 : Nat) : Int)) = true := beq_iff_eq.2 hx
 have m4 : ((ts.length : Int) != 2 + rd ns 5 + 2 * ((ns.length - 6 : Nat) : Int)) = false := bne_eq_false_iff_eq.2 hx
 clear hn ht hx
 have HEN := Aside0.mk hen
 clear hen
 have hu25 := Try.underlying25
 have hu48 := Try.underlying48
 have HF := Aside0.mk hf
 clear hf
 go_enter Try.func18, Try.ntmps18
 go_upto_region 2 with (first | ((with_reducible refine gate_dst (N := 2) rfl ?_); refine box_event ?hg (N := 2) ?hd (cs := #[.int .i64 0, .int .i64 0, .int .i64 0, .int .i64 0, .string (⟨#[]⟩ : ByteArray), .string (⟨#[]⟩ : ByteArray), .bool false, .slice none 0 0, .slice none 0 0]) (t := 25) ?hr ?_; (case hd => rfl); (case hg => rfl); (case hr => first | (go_simp; done) | (go_simp; rfl)); intro gq hgg w1 hbox hb; have GQ := Aside0.mk (Nat.le_of_eq hgg.symm); have BQ := Aside0.mk hbox; have BA := Aside0.mk hb; clear hgg hbox hb) | (go_at_call 36; refine (pack_Decode.calls s _ _ _ _ _ HF.out).mono ?_; rintro x w2 ⟨v0, v1, rfl, hN, hT, hb⟩; obtain ⟨AN, cN, eN⟩ := Kd.R_slice hN; subst eN; obtain ⟨AT, cT, eT⟩ := Kd.R_slice hT; subst eT; have GN := Aside0.mk (Kd.R_lower hN (below_size BA.out)); have GT := Aside0.mk (Kd.R_lower hT (below_size BA.out)); have BC := Aside0.mk (below_step BA.out hb); have BQ2 := Aside0.mk (blk_below BQ.out hb); clear hN hT hb) | ((with_reducible refine gate_dst (N := 4) rfl ?_); refine box_event ?hg (N := 4) ?hd (cs := #[.slice none 0 0, .slice none 0 0]) (t := 48) ?hr ?_; (case hd => rfl); (case hg => rfl); (case hr => first | (go_simp; done) | (go_simp; rfl)); intro gp hgp w3 hbox hb; have HQ := Aside0.mk (qr_of GQ.out BQ2.out hbox hgp GN.out GT.out BC.out hb); have hz0 : w3.cell? ⟨gp, 0, none⟩ = some (.slice none 0 0) := (blk_cell hbox 0).trans rfl; have hz1 : w3.cell? ⟨gp, 1, none⟩ = some (.slice none 0 0) := (blk_cell hbox 1).trans rfl; have hzf0 := blk_frozen hbox 0; have hzf1 := blk_frozen hbox 1; clear hgp hbox hb))
 generalize eW : (w3.setCell ⟨gp, 0, none⟩ (.slice AN ns.length cN)).setCell ⟨gp, 1, none⟩ (.slice AT ts.length cT) = W at HQ ⊢
 clear eW hz0 hz1 hzf0 hzf1 GN GT BC BQ2 BQ BA GQ
 have hP0 : W.cell? ⟨gp, 0, none⟩ = some (.slice AN ns.length cN) := (blk_cell HQ.out.bp 0).trans rfl
 have hP1 : W.cell? ⟨gp, 1, none⟩ = some (.slice AT ts.length cT) := (blk_cell HQ.out.bp 1).trans rfl
 obtain ⟨hq0, hqf0, hq1, hqf1, hq2, hqf2, hq3, hqf3, hq4, hqf4, hq5, hqf5, hq6, hqf6, hq7, hqf7, hq8, hqf8⟩ := c9f HQ.out.bq
 obtain ⟨gn, cn, eN, gnb, gnl, cellsN, hcN⟩ := Kd.R_form HQ.out.ns (by omega)
 obtain ⟨gt, ct, eT, gtb, gtl, cellsT, hcT⟩ := Kd.R_form HQ.out.ts (by omega)
 have eN' : AN = some ⟨gn, 0, none⟩ ∧ cN = cn := by simpa using eN
 have eT' : AT = some ⟨gt, 0, none⟩ ∧ cT = ct := by simpa using eT
 obtain ⟨rfl, rfl⟩ := eN'
 obtain ⟨rfl, rfl⟩ := eT'
 obtain ⟨_, hcapN, hCN⟩ := Kd.R_reads' HQ.out.ns
 obtain ⟨_, hcapT, hCT⟩ := Kd.R_reads' HQ.out.ts
 clear eN eT hcN hcT gnb gnl gtb gtl
 obtain ⟨_, eA, hn0⟩ := Kd.at_int hCN 0 (by decide) (by omega)
 cases eA
 replace hn0 : W.cell? ⟨gn, 0, none⟩ = some (.int .i64 (rd ns 0)) := by simpa [add_plain] using hn0
 obtain ⟨_, eA, hn1⟩ := Kd.at_int hCN 1 (by decide) (by omega)
 cases eA
 replace hn1 : W.cell? ⟨gn, 1, none⟩ = some (.int .i64 (rd ns 1)) := by simpa [add_plain] using hn1
 obtain ⟨_, eA, hn2⟩ := Kd.at_int hCN 2 (by decide) (by omega)
 cases eA
 replace hn2 : W.cell? ⟨gn, 2, none⟩ = some (.int .i64 (rd ns 2)) := by simpa [add_plain] using hn2
 obtain ⟨_, eA, hn3⟩ := Kd.at_int hCN 3 (by decide) (by omega)
 cases eA
 replace hn3 : W.cell? ⟨gn, 3, none⟩ = some (.int .i64 (rd ns 3)) := by simpa [add_plain] using hn3
 obtain ⟨_, eA, hn4⟩ := Kd.at_int hCN 4 (by decide) (by omega)
 cases eA
 replace hn4 : W.cell? ⟨gn, 4, none⟩ = some (.int .i64 (rd ns 4)) := by simpa [add_plain] using hn4
 obtain ⟨_, eA, hn5⟩ := Kd.at_int hCN 5 (by decide) (by omega)
 cases eA
 replace hn5 : W.cell? ⟨gn, 5, none⟩ = some (.int .i64 (rd ns 5)) := by simpa [add_plain] using hn5
 obtain ⟨_, eA, ht0⟩ := Kd.at_string hCT 0 (by decide) (by omega)
 cases eA
 replace ht0 : W.cell? ⟨gt, 0, none⟩ = some (.string (rdOf ByteArray.empty ts 0)) := by simpa [add_plain] using ht0
 obtain ⟨_, eA, ht1⟩ := Kd.at_string hCT 1 (by decide) (by omega)
 cases eA
 replace ht1 : W.cell? ⟨gt, 1, none⟩ = some (.string (rdOf ByteArray.empty ts 1)) := by simpa [add_plain] using ht1
 go_wp2
 obtain ⟨i3, hi3, hz3⟩ := Option.map_eq_some_iff.1 info3
 have hs3 : i3.size = 1 := by simpa using congrArg (fun x => x.2.1) hz3
 have hcutN := fun W => cut_from (P := Try.prog) 46 3 .i64 Try.underlying46 hi3 1 hs3 (some ⟨gn, 0, none⟩) ns.length cN 6 (by decide) (by omega) W
 have hsameN : (if cN = (6 : Int).toNat then (some ⟨gn, 0, none⟩ : Option Addr) else (some ⟨gn, 0, none⟩ : Option Addr).map (·.add ((6 : Int).toNat * 1))) = (if cN = 6 then (some ⟨gn, 0, none⟩ : Option Addr) else (some ⟨gn, 0, none⟩ : Option Addr).map (·.add (6 * (Kd.int .i64).sz))) := rfl
 rw [hsameN] at hcutN
 obtain ⟨AF, hAF⟩ : ∃ A, A = (if cN = 6 then (some ⟨gn, 0, none⟩ : Option Addr) else (some ⟨gn, 0, none⟩ : Option Addr).map (·.add (6 * (Kd.int .i64).sz))) := ⟨_, rfl⟩
 rw [← hAF] at hcutN
 have HMF : Aside0 (∀ W', (Kd.int .i64).C W' (some ⟨gn, 0, none⟩) ns.length ns → (Kd.int .i64).C W' AF (ns.drop 6).length (ns.drop 6)) := ⟨fun W' h => by rw [hAF]; exact Kd.C_drop (m := 6) h (by omega) hcapN⟩
 have q5 : (6 : Int) ≤ (ns.length : Int) := by omega
 have j5_ : (5 : Int) < (ns.length : Int) := by omega
 have jj5_ : 5 < ns.length := by omega
 have jn : ¬ (ns = []) := fun h => by rw [h] at hl7; exact absurd hl7 (by decide)
 have HCAPN := Aside0.mk hcapN
 have HCAP := Aside0.mk hcapT
 clear hsameN hAF hs3 hz3 hi3 hcapN hcapT hCN hCT
 go_region_held3 (fun W => W.cell? ⟨gp, 0, none⟩ = some (.slice (some ⟨gn, 0, none⟩) ns.length cN) ∧ W.cell? ⟨gn, 5, none⟩ = some (.int .i64 (rd ns 5))) (go_keep) (fail)
 have HQ1 := Aside0.mk HQ.out.drew
 generalize eW : W.drew = W1 at HQ1 ⊢
 clear eW HQ hP0 hP1 hn0 hn1 hn2 hn3 hn4 hn5 ht0 ht1 hq0 hqf0 hq1 hqf1 hq2 hqf2 hq3 hqf3 hq4 hqf4 hq5 hqf5 hq6 hqf6 hq7 hqf7 hq8 hqf8
 obtain ⟨hq0, hqf0, hq1, hqf1, hq2, hqf2, hq3, hqf3, hq4, hqf4, hq5, hqf5, hq6, hqf6, hq7, hqf7, hq8, hqf8⟩ := c9f HQ1.out.bq
 have hP0 : W1.cell? ⟨gp, 0, none⟩ = some (.slice (some ⟨gn, 0, none⟩) ns.length cN) := (blk_cell HQ1.out.bp 0).trans rfl
 have hP1 : W1.cell? ⟨gp, 1, none⟩ = some (.slice (some ⟨gt, 0, none⟩) ts.length cT) := (blk_cell HQ1.out.bp 1).trans rfl
 obtain ⟨i9, hi9, hz9⟩ := Option.map_eq_some_iff.1 info9
 have hs9 : i9.size = 1 := by simpa using congrArg (fun x => x.2.1) hz9
 have hcut := fun W => cut_mid (P := Try.prog) 22 9 .i64 .i64 Try.underlying22 hi9 1 hs9 (some ⟨gt, 0, none⟩) ts.length cT 2 (2 + rd ns 5) (by decide) (by omega) (by omega) HCAP.out W
 have hsame : (if cT = (2 : Int).toNat then (some ⟨gt, 0, none⟩ : Option Addr) else (some ⟨gt, 0, none⟩ : Option Addr).map (·.add ((2 : Int).toNat * 1))) = (if cT = 2 then (some ⟨gt, 0, none⟩ : Option Addr) else (some ⟨gt, 0, none⟩ : Option Addr).map (·.add (2 * Kd.string.sz))) := rfl
 rw [hsame] at hcut
 obtain ⟨A7, hA7⟩ : ∃ A, A = (if cT = 2 then (some ⟨gt, 0, none⟩ : Option Addr) else (some ⟨gt, 0, none⟩ : Option Addr).map (·.add (2 * Kd.string.sz))) := ⟨_, rfl⟩
 rw [← hA7] at hcut
 have HM7 : Aside0 (∀ W', Kd.C Kd.string W' (some ⟨gt, 0, none⟩) ts.length ts → Kd.C Kd.string W' A7 ((ts.take (2 + rd ns 5).toNat).drop 2).length ((ts.take (2 + rd ns 5).toNat).drop 2)) := ⟨fun W' h => by rw [hA7]; exact Kd.C_mid (lo := 2) (hi := (2 + rd ns 5).toNat) h (by omega) (by omega) HCAP.out⟩
 have hcutT := fun W => cut_from (P := Try.prog) 22 9 .i64 Try.underlying22 hi9 1 hs9 (some ⟨gt, 0, none⟩) ts.length cT (2 + rd ns 5) (by omega) (by omega) W
 have hsameT : (if cT = (2 + rd ns 5).toNat then (some ⟨gt, 0, none⟩ : Option Addr) else (some ⟨gt, 0, none⟩ : Option Addr).map (·.add ((2 + rd ns 5).toNat * 1))) = (if cT = (2 + rd ns 5).toNat then (some ⟨gt, 0, none⟩ : Option Addr) else (some ⟨gt, 0, none⟩ : Option Addr).map (·.add ((2 + rd ns 5).toNat * Kd.string.sz))) := rfl
 rw [hsameT] at hcutT
 obtain ⟨AR, hAR⟩ : ∃ A, A = (if cT = (2 + rd ns 5).toNat then (some ⟨gt, 0, none⟩ : Option Addr) else (some ⟨gt, 0, none⟩ : Option Addr).map (·.add ((2 + rd ns 5).toNat * Kd.string.sz))) := ⟨_, rfl⟩
 rw [← hAR] at hcutT
 have HMR : Aside0 (∀ W', Kd.C Kd.string W' (some ⟨gt, 0, none⟩) ts.length ts → Kd.C Kd.string W' AR (ts.drop (2 + rd ns 5).toNat).length (ts.drop (2 + rd ns 5).toNat)) := ⟨fun W' h => by rw [hAR]; exact Kd.C_drop (m := (2 + rd ns 5).toNat) h (by omega) HCAP.out⟩
 have L7 := Aside0.mk (show (2 + rd ns 5).toNat - 2 = ((ts.take (2 + rd ns 5).toNat).drop 2).length from by rw [List.length_drop, List.length_take]; omega)
 have K7 := Aside0.mk (show ((ts.take (2 + rd ns 5).toNat).drop 2).length ≤ cT - 2 from by have := HCAP.out; rw [List.length_drop, List.length_take]; omega)
 have K7L := Aside0.mk (show ((ts.take (2 + rd ns 5).toNat).drop 2).length < 8796093022208 from by rw [List.length_drop, List.length_take]; omega)
 have q1 : IntKind.i64.wrap (2 + rd ns 5) = 2 + rd ns 5 := IntWalk.i64_in _ (by omega)
 have q2 : (0 : Int) ≤ 2 + rd ns 5 := by omega
 have q3 : (2 : Int) ≤ 2 + rd ns 5 := by omega
 have q4 : 2 + rd ns 5 ≤ (ts.length : Int) := by omega
 have jt : (0 : Int) < (ts.length : Int) := by omega
 have jt1 : (1 : Int) < (ts.length : Int) := by omega
 have jjt1 : 1 < ts.length := by omega
 have jjt : 0 < ts.length := by omega
 have j0 : (0 : Int) < (ns.length : Int) := by omega
 have jj0 : 0 < ns.length := by omega
 have j1 : (1 : Int) < (ns.length : Int) := by omega
 have jj1 : 1 < ns.length := by omega
 have j2 : (2 : Int) < (ns.length : Int) := by omega
 have jj2 : 2 < ns.length := by omega
 have j3 : (3 : Int) < (ns.length : Int) := by omega
 have jj3 : 3 < ns.length := by omega
 have j4 : (4 : Int) < (ns.length : Int) := by omega
 have jj4 : 4 < ns.length := by omega
 have j5 : (5 : Int) < (ns.length : Int) := by omega
 have jj5 : 5 < ns.length := by omega
 clear hsame hsameT hA7 hAR hs9 hz9 hi9
 have hN7 := HQ1.out.ns
 have hT7 := HQ1.out.ts
 have hn0 : W1.cell? ⟨gn, 0, none⟩ = some (.int .i64 (rd ns 0)) := ncell HQ1.out.ns 0 (by omega)
 have hn1 : W1.cell? ⟨gn, 1, none⟩ = some (.int .i64 (rd ns 1)) := ncell HQ1.out.ns 1 (by omega)
 have hn2 : W1.cell? ⟨gn, 2, none⟩ = some (.int .i64 (rd ns 2)) := ncell HQ1.out.ns 2 (by omega)
 have hn3 : W1.cell? ⟨gn, 3, none⟩ = some (.int .i64 (rd ns 3)) := ncell HQ1.out.ns 3 (by omega)
 have hn4 : W1.cell? ⟨gn, 4, none⟩ = some (.int .i64 (rd ns 4)) := ncell HQ1.out.ns 4 (by omega)
 have hn5 : W1.cell? ⟨gn, 5, none⟩ = some (.int .i64 (rd ns 5)) := ncell HQ1.out.ns 5 (by omega)
 have ht0 : W1.cell? ⟨gt, 0, none⟩ = some (.string (rdOf ByteArray.empty ts 0)) := tcell HQ1.out.ts 0 (by omega)
 have ht1 : W1.cell? ⟨gt, 1, none⟩ = some (.string (rdOf ByteArray.empty ts 1)) := tcell HQ1.out.ts 1 (by omega)
 have nn1 : gn ≠ W1.heap.size := by have := Kd.R_lt hN7 gn (by simp [Value.ownBlock]); omega
 have nn2 : gt ≠ W1.heap.size := by have := Kd.R_lt hT7 gt (by simp [Value.ownBlock]); omega
 have nn3 : gp ≠ W1.heap.size := by have := blk_lt HQ1.out.bp; omega
 have nn7 : gq ≠ W1.heap.size := by have := blk_lt HQ1.out.bq; omega
 have nn4 := Ne.symm nn1
 have nn5 := Ne.symm nn2
 have nn6 := Ne.symm nn3
 clear hN7 hT7
 go_upto_region 8 with (fail)
 go_cut [10] from 69 (fun v10 wc => ∃ (gl cK : Nat) (AK : Option Addr), v10 = .pointer (some ⟨gl, 0, none⟩) ∧ Aside0 (PL w wc gq gp gl ns ts (.slice (some ⟨gn, 0, none⟩) ns.length cN) (.slice (some ⟨gt, 0, none⟩) ts.length cT) (rd ns 0) (rd ns 1) (rd ns 2) (rd ns 3) (rdOf ByteArray.empty ts 0) (rdOf ByteArray.empty ts 1) (rd ns 4 == 1) ((ts.take (2 + rd ns 5).toNat).drop 2) (.slice AK ((ts.take (2 + rd ns 5).toNat).drop 2).length cK) [] (.slice none 0 0)))
 case first =>
  go_region_held3 (fun W => W.cell? ⟨gn, 0, none⟩ = some (.int .i64 (rd ns 0)) ∧ W.cell? ⟨gn, 1, none⟩ = some (.int .i64 (rd ns 1)) ∧ W.cell? ⟨gn, 2, none⟩ = some (.int .i64 (rd ns 2)) ∧ W.cell? ⟨gn, 3, none⟩ = some (.int .i64 (rd ns 3)) ∧ W.cell? ⟨gn, 4, none⟩ = some (.int .i64 (rd ns 4)) ∧ W.cell? ⟨gn, 5, none⟩ = some (.int .i64 (rd ns 5)) ∧ W.cell? ⟨gp, 1, none⟩ = some (.slice (some ⟨gt, 0, none⟩) ts.length cT) ∧ W.cell? ⟨gt, 0, none⟩ = some (.string (rdOf ByteArray.empty ts 0)) ∧ W.cell? ⟨gt, 1, none⟩ = some (.string (rdOf ByteArray.empty ts 1))) (go_keep) ((go_at_call 37; (with_reducible refine (clone_len L7.out (HM7.out _ (Kd.R_reads' (QR.ts (w0 := w) (gq := gq) (gp := gp) (xs := ns) (ts := ts) (vN := .slice (some ⟨gn, 0, none⟩) ns.length cN) (vT := .slice (some ⟨gt, 0, none⟩) ts.length cT) (by (with_reducible repeat (first | exact HQ1.out | apply QR.drew | apply QR.drewN | apply QR.alloc))))).2.2) K7.out K7L.out).mono ?_); rintro e w2 ⟨v7, rfl, ho, hb⟩; obtain ⟨AK, cK, eK⟩ := Kd.R_slice ho; subst eK; have HQ2 : Aside0 (QR w w2 gq gp ns ts (.slice (some ⟨gn, 0, none⟩) ns.length cN) (.slice (some ⟨gt, 0, none⟩) ts.length cT)) := ⟨QR.below (by (with_reducible repeat (first | exact HQ1.out | apply QR.drew | apply QR.drewN | apply QR.alloc))) hb⟩; have HO2 : Aside0 (Kd.string.R 9 w2 w.heap.size (fun _ => True) (.slice AK ((ts.take (2 + rd ns 5).toNat).drop 2).length cK) ((ts.take (2 + rd ns 5).toNat).drop 2)) := ⟨Kd.R_lower ho (QR.bel (w0 := w) (gq := gq) (gp := gp) (xs := ns) (ts := ts) (vN := .slice (some ⟨gn, 0, none⟩) ns.length cN) (vT := .slice (some ⟨gt, 0, none⟩) ts.length cT) (by (with_reducible repeat (first | exact HQ1.out | apply QR.drew | apply QR.drewN | apply QR.alloc)))).size⟩; (try (have BG : Aside0 (w2.heap[W1.heap.size]? = some (.cells #[.int .i64 0, .int .i64 0, .int .i64 0, .int .i64 0, .string (⟨#[]⟩ : ByteArray), .string (⟨#[]⟩ : ByteArray), .bool false, .slice none 0 0, .slice none 0 0] 25 (0, 0))) := ⟨blk_below (w := (W1.alloc (.cells #[.int .i64 0, .int .i64 0, .int .i64 0, .int .i64 0, .string (⟨#[]⟩ : ByteArray), .string (⟨#[]⟩ : ByteArray), .bool false, .slice none 0 0, .slice none 0 0] 25)).drew) (blk_drew (blk_new W1 _)) hb⟩; have hg0 : w2.cell? ⟨W1.heap.size, 0, none⟩ = some (.int .i64 0) := (blk_cell BG.out 0).trans rfl; have hgf0 := blk_frozen BG.out 0; have hg1 : w2.cell? ⟨W1.heap.size, 1, none⟩ = some (.int .i64 0) := (blk_cell BG.out 1).trans rfl; have hgf1 := blk_frozen BG.out 1; have hg2 : w2.cell? ⟨W1.heap.size, 2, none⟩ = some (.int .i64 0) := (blk_cell BG.out 2).trans rfl; have hgf2 := blk_frozen BG.out 2; have hg3 : w2.cell? ⟨W1.heap.size, 3, none⟩ = some (.int .i64 0) := (blk_cell BG.out 3).trans rfl; have hgf3 := blk_frozen BG.out 3; have hg4 : w2.cell? ⟨W1.heap.size, 4, none⟩ = some (.string (⟨#[]⟩ : ByteArray)) := (blk_cell BG.out 4).trans rfl; have hgf4 := blk_frozen BG.out 4; have hg5 : w2.cell? ⟨W1.heap.size, 5, none⟩ = some (.string (⟨#[]⟩ : ByteArray)) := (blk_cell BG.out 5).trans rfl; have hgf5 := blk_frozen BG.out 5; have hg6 : w2.cell? ⟨W1.heap.size, 6, none⟩ = some (.bool false) := (blk_cell BG.out 6).trans rfl; have hgf6 := blk_frozen BG.out 6; have hg7 : w2.cell? ⟨W1.heap.size, 7, none⟩ = some (.slice none 0 0) := (blk_cell BG.out 7).trans rfl; have hgf7 := blk_frozen BG.out 7; have hg8 : w2.cell? ⟨W1.heap.size, 8, none⟩ = some (.slice none 0 0) := (blk_cell BG.out 8).trans rfl; have hgf8 := blk_frozen BG.out 8;  skip)); have hp1 : w2.cell? ⟨gp, 1, none⟩ = some (.slice (some ⟨gt, 0, none⟩) ts.length cT) := (blk_cell HQ2.out.bp 1).trans rfl; have hm0 : w2.cell? ⟨gn, 0, none⟩ = some (.int .i64 (rd ns 0)) := ncell HQ2.out.ns 0 (by omega); have hm1 : w2.cell? ⟨gn, 1, none⟩ = some (.int .i64 (rd ns 1)) := ncell HQ2.out.ns 1 (by omega); have hm2 : w2.cell? ⟨gn, 2, none⟩ = some (.int .i64 (rd ns 2)) := ncell HQ2.out.ns 2 (by omega); have hm3 : w2.cell? ⟨gn, 3, none⟩ = some (.int .i64 (rd ns 3)) := ncell HQ2.out.ns 3 (by omega); have hm4 : w2.cell? ⟨gn, 4, none⟩ = some (.int .i64 (rd ns 4)) := ncell HQ2.out.ns 4 (by omega); have hm5 : w2.cell? ⟨gn, 5, none⟩ = some (.int .i64 (rd ns 5)) := ncell HQ2.out.ns 5 (by omega); have hu0 : w2.cell? ⟨gt, 0, none⟩ = some (.string (rdOf ByteArray.empty ts 0)) := tcell HQ2.out.ts 0 (by omega); have hu1 : w2.cell? ⟨gt, 1, none⟩ = some (.string (rdOf ByteArray.empty ts 1)) := tcell HQ2.out.ts 1 (by omega);  clear ho hb))
  all_goals (go_wp2; go_meet)
  all_goals (case rel => first | (have bg_ := BG.out; rw [L7.out]; exact ⟨W1.heap.size, cK, AK, rfl, ⟨PL.nine HQ2.out BG.out HQ1.out.bel.size nn7 nn3 HO2.out⟩⟩) | (rw [L7.out]; exact ⟨w2.heap.size, cK, AK, rfl, ⟨PL.new HQ2.out HO2.out⟩⟩))
 case rest =>
  obtain ⟨gl, cK, AK, rfl, HP0⟩ := hcut
  clear HQ1 hn0 hn1 hn2 hn3 hn4 hn5 ht0 hP0 hP1 hq0 hqf0 hq1 hqf1 hq2 hqf2 hq3 hqf3 hq4 hqf4 hq5 hqf5 hq6 hqf6 hq7 hqf7 hq8 hqf8 nn1 nn2 nn3 nn4 nn5 nn6 hcut hcutN
  have hP1 : wc.cell? ⟨gp, 1, none⟩ = some (.slice (some ⟨gt, 0, none⟩) ts.length cT) := (blk_cell HP0.out.q.bp 1).trans rfl
  have hl7' : ns.length - 6 ≤ 1024 := by omega
  go_wp2
  go_loopw [107] (fun v107 wr => ∃ (i : Nat) (x : Int) (vW : Value), v107 = .int .i64 x ∧ Aside0 (x = (i : Int)) ∧ Aside0 (i ≤ ns.length - 6) ∧ Aside0 (PL w wr gq gp gl ns ts (.slice (some ⟨gn, 0, none⟩) ns.length cN) (.slice (some ⟨gt, 0, none⟩) ts.length cT) (rd ns 0) (rd ns 1) (rd ns 2) (rd ns 3) (rdOf ByteArray.empty ts 0) (rdOf ByteArray.empty ts 1) (rd ns 4 == 1) ((ts.take (2 + rd ns 5).toNat).drop 2) (.slice AK ((ts.take (2 + rd ns 5).toNat).drop 2).length cK) (wsOf (ns.drop 6) (ts.drop (2 + rd ns 5).toNat) i) vW)) (fun v107 _ => (ns.length - 6) - (intOf v107).toNat)
  case atStart => exact ⟨0, 0, _, rfl, ⟨rfl⟩, ⟨Nat.zero_le _⟩, HP0⟩
  case round =>
   obtain ⟨i, x, vW, rfl, hx, hi, HP⟩ := hrel
   clear HP0 hP1 q1 hcutT
   have hxi := hx.out
   have hile := hi.out
   obtain ⟨AW, cW, eW⟩ := Kd.R_slice HP.out.wr
   subst eW
   by_cases hlt : i < ns.length - 6
   ·have c1 : decide (x < ((ns.length - 6 : Nat) : Int)) = true := decide_eq_true (by omega)
    have p1 : 0 ≤ x := by omega
    have b1 : x ≤ 1024 := by omega
    have q0 : x < ((ns.length - 6 : Nat) : Int) := by omega
    have hxx := HX.out
    have r1 : 2 * x < ((ts.length - (2 + rd ns 5).toNat : Nat) : Int) := by omega
    have r2 : 2 * x + 1 < ((ts.length - (2 + rd ns 5).toNat : Nat) : Int) := by omega
    have r3 : 0 ≤ 2 * x := by omega
    have r4 : 0 ≤ 2 * x + 1 := by omega
    obtain ⟨adF, eF, hF⟩ := Kd.at_int (HMF.out _ (Kd.R_reads' HP.out.q.ns).2.2) x p1 (by rw [List.length_drop]; exact q0)
    obtain ⟨adR, eR, hR0⟩ := Kd.at_string (HMR.out _ (Kd.R_reads' HP.out.q.ts).2.2) (2 * x) r3 (by rw [List.length_drop]; exact r1)
    obtain ⟨adR', eR', hR1⟩ := Kd.at_string (HMR.out _ (Kd.R_reads' HP.out.q.ts).2.2) (2 * x + 1) r4 (by rw [List.length_drop]; exact r2)
    subst eF
    subst eR
    cases eR'
    have hv : wsOf (ns.drop 6) (ts.drop (2 + rd ns 5).toNat) (i + 1) = wsOf (ns.drop 6) (ts.drop (2 + rd ns 5).toNat) i ++ [⟨rdOf ByteArray.empty (ts.drop (2 + rd ns 5).toNat) (2 * x), rdOf ByteArray.empty (ts.drop (2 + rd ns 5).toNat) (2 * x + 1), rd (ns.drop 6) x == 1⟩] := by rw [ws_succ, hxi]; rfl
    have HLn : Aside0 ((wsOf (ns.drop 6) (ts.drop (2 + rd ns 5).toNat) i).length ≤ 1024) := ⟨by rw [ws_len]; omega⟩
    generalize rdOf ByteArray.empty (ts.drop (2 + rd ns 5).toNat) (2 * x) = ta at hR0 hv
    generalize rdOf ByteArray.empty (ts.drop (2 + rd ns 5).toNat) (2 * x + 1) = tb at hR1 hv
    generalize rd (ns.drop 6) x = dd at hF hv
    have HV := Aside0.mk hv
    have HI := Aside0.mk (show x + 1 = ((i + 1 : Nat) : Int) from by omega)
    have HLE := Aside0.mk (show i + 1 ≤ ns.length - 6 from hlt)
    have HM := Aside0.mk (show (ns.length - 6) - (intOf (.int .i64 (x + 1))).toNat < (ns.length - 6) - (intOf (.int .i64 x)).toNat from by simp [intOf]; omega)
    have HPd := Aside0.mk HP.out.drew
    have hlW : wr.cell? ⟨gl, 8, none⟩ = some (.slice AW (wsOf (ns.drop 6) (ts.drop (2 + rd ns 5).toNat) i).length cW) := (blk_cell HP.out.bl 8).trans rfl
    have hlW2 : ∀ o : Obj, (wr.drew.alloc o).cell? ⟨gl, 8, none⟩ = some (.slice AW (wsOf (ns.drop 6) (ts.drop (2 + rd ns 5).toNat) i).length cW) := fun o => (blk_cell (HPd.out.alloc o).bl 8).trans rfl
    have hlW3 : ∀ o : Obj, (wr.alloc o).cell? ⟨gl, 8, none⟩ = some (.slice AW (wsOf (ns.drop 6) (ts.drop (2 + rd ns 5).toNat) i).length cW) := fun o => (blk_cell (HP.out.alloc o).bl 8).trans rfl
    have s1 : IntKind.i64.wrap (2 * x) = 2 * x := IntWalk.i64_in _ (by omega)
    have s2 : IntKind.i64.wrap (2 * x + 1) = 2 * x + 1 := IntWalk.i64_in _ (by omega)
    clear hv hxi hile hlt hxx
    go_wp2_with fail
    go_region_law (refine Kd.R_append_step k50 (w0 := w) w.heap.size (by rfl) (.tmp 113) (.tmp 128) 23 50 (.agg #[.string ⟨#[]⟩, .string ⟨#[]⟩, .bool false]) 40 (by rfl) Try.underlying23 info50 rfl (by decide) (by decide) (.slice AW (wsOf (ns.drop 6) (ts.drop (2 + rd ns 5).toNat) i).length cW) (wsOf (ns.drop 6) (ts.drop (2 + rd ns 5).toNat) i) (⟨ta, tb, dd == 1⟩ : S50) [.string ta, .string tb, .bool (dd == 1)] (fun _ => True) (fun _ => False) (by rfl) (by rfl) (k50_mkM _ _ _ _) (fun _ hk => hk.elim) (fun _ _ => trivial) HPd.out.wr HPd.out.q.bel HPd.out.q.bel.size (Nat.le_trans (Nat.mul_le_mul_right 40 (Nat.add_le_add_right HLn.out 1)) (by decide)) ?_; intro v1 w1 ho hb hg hat; obtain ⟨A1, k1, e1⟩ := Kd.R_slice ho; subst e1; obtain ⟨b1, hp2⟩ := HPd.out.push ho hb hg; have HP2 := Aside0.mk hp2; have hs0 : w1.cell? ⟨gl, 8, none⟩ = some (.slice AW (wsOf (ns.drop 6) (ts.drop (2 + rd ns 5).toNat) i).length cW) := (blk_cell b1 8).trans rfl; have hf0 := blk_frozen b1 8; clear ho hb hg hat hp2 b1)
    all_goals go_wp2_with fail
    all_goals (have HP3 := HP2.out; rw [List.length_append, List.length_singleton, ← HV.out] at HP3; exact ⟨⟨i + 1, x + 1, _, rfl, HI, HLE, ⟨HP3⟩⟩, HM.out⟩)
   ·have c1 : decide (x < ((ns.length - 6 : Nat) : Int)) = false := decide_eq_false (by omega)
    obtain rfl : i = ns.length - 6 := by omega
    clear hxi hile hlt
    obtain ⟨hl0, hl1, hl2, hl3, hl4, hl5, hl6, hl7, hl8⟩ := c9 HP.out.bl
    by_cases he : ee = 0
    ·subst he
     by_cases hbs : bb = s
     ·subst hbs
      rw [if_pos ⟨rfl, rfl⟩] at HRR
      go_wp2_with (go_at_call 9; (with_reducible refine (enc_len (k := k) L7.out (Kd.R_reads' HP.out.kr).2.2 (Kd.R_reads' HP.out.kr).2.1 (Kd.R_reads' HP.out.wr).2.2 (Kd.R_reads' HP.out.wr).2.1 HEN.out).mono ?_); rintro e9 w9 ⟨rfl, hb⟩; have HP9 := Aside0.mk (HP.out.below hb); obtain ⟨hq0, hqf0, hq1, hqf1, hq2, hqf2, hq3, hqf3, hq4, hqf4, hq5, hqf5, hq6, hqf6, hq7, hqf7, hq8, hqf8⟩ := c9f HP9.out.q.bq;   obtain ⟨hm0, hm1, hm2, hm3, hm4, hm5, hm6, hm7, hm8⟩ := c9 HP9.out.bl;   clear hb)
      have hr9 := Kd.R_keep (Kd.R_types HP9.out.wr HP9.out.q.bq (by decide)) (keep9 (W := w9) (g := gq) (c0 := .int .i64 (rd ns 0)) (c1 := .int .i64 (rd ns 1)) (c2 := .int .i64 (rd ns 2)) (c3 := .int .i64 (rd ns 3)) (c4 := .string (rdOf ByteArray.empty ts 0)) (c5 := .string (rdOf ByteArray.empty ts 1)) (c6 := .bool (rd ns 4 == 1)) (c7 := .slice AK ((2 + rd ns 5).toNat - 2) cK) (c8 := .slice AW (wsOf (ns.drop 6) (ts.drop (2 + rd ns 5).toNat) (ns.length - 6)).length cW)) (fun _ hk => hk.2)
      have hk9 := Kd.R_keep (Kd.R_types HP9.out.kr HP9.out.q.bq (by decide)) (keep9 (W := w9) (g := gq) (c0 := .int .i64 (rd ns 0)) (c1 := .int .i64 (rd ns 1)) (c2 := .int .i64 (rd ns 2)) (c3 := .int .i64 (rd ns 3)) (c4 := .string (rdOf ByteArray.empty ts 0)) (c5 := .string (rdOf ByteArray.empty ts 1)) (c6 := .bool (rd ns 4 == 1)) (c7 := .slice AK ((2 + rd ns 5).toNat - 2) cK) (c8 := .slice AW (wsOf (ns.drop 6) (ts.drop (2 + rd ns 5).toNat) (ns.length - 6)).length cW)) (fun _ hk => hk.2)
      rw [← L7.out] at hk9
      refine bodyPost_ret (results_ct rfl _ _ gq 25 #[.int .i64 (rd ns 0), .int .i64 (rd ns 1), .int .i64 (rd ns 2), .int .i64 (rd ns 3), .string (rdOf ByteArray.empty ts 0), .string (rdOf ByteArray.empty ts 1), .bool (rd ns 4 == 1), .slice AK ((2 + rd ns 5).toNat - 2) cK, .slice AW (wsOf (ns.drop 6) (ts.drop (2 + rd ns 5).toNat) (ns.length - 6)).length cW] (0, 0) _ rfl (set9 HP9.out.q.bq) Try.underlying25 rfl (by kernel_rfl)) rfl ?_
      exact ⟨.slice AK ((2 + rd ns 5).toNat - 2) cK, _, by rw [← HRR]; rfl, by rw [← HRR]; exact Kd.R_mono hk9 (fun _ _ => trivial), by rw [← HRR]; exact Kd.R_mono hr9 (fun _ _ => trivial), below9 HP9.out.q.bel HP9.out.q.geq⟩
     ·have t1 : (bb.toList == s.toList) = false := beq_eq_false_iff_ne.2 (fun ht => hbs (B_inj (by rw [← toList_eq, ← toList_eq, ht])))
      have t2 : (bb.toList != s.toList) = true := bne_iff_ne.2 (fun ht => hbs (B_inj (by rw [← toList_eq, ← toList_eq, ht])))
      rw [if_neg (fun h => hbs h.2)] at HRR
      clear hbs
      go_wp2_with (go_at_call 9; (with_reducible refine (enc_len (k := k) L7.out (Kd.R_reads' HP.out.kr).2.2 (Kd.R_reads' HP.out.kr).2.1 (Kd.R_reads' HP.out.wr).2.2 (Kd.R_reads' HP.out.wr).2.1 HEN.out).mono ?_); rintro e9 w9 ⟨rfl, hb⟩; have HP9 := Aside0.mk (HP.out.below hb); obtain ⟨hq0, hqf0, hq1, hqf1, hq2, hqf2, hq3, hqf3, hq4, hqf4, hq5, hqf5, hq6, hqf6, hq7, hqf7, hq8, hqf8⟩ := c9f HP9.out.q.bq;   obtain ⟨hm0, hm1, hm2, hm3, hm4, hm5, hm6, hm7, hm8⟩ := c9 HP9.out.bl;   clear hb)
      refine bodyPost_ret (results_ct rfl _ _ gq 25 #[.int .i64 0, .int .i64 0, .int .i64 0, .int .i64 0, .string (⟨#[]⟩ : ByteArray), .string (⟨#[]⟩ : ByteArray), .bool false, .slice none 0 0, .slice none 0 0] (0, 0) _ rfl (set9 HP9.out.q.bq) Try.underlying25 rfl (by kernel_rfl)) rfl ?_
      exact ⟨_, _, by rw [← HRR]; rfl, by rw [← HRR]; exact Kd.R_nil _ _ _ _ _, by rw [← HRR]; exact Kd.R_nil _ _ _ _ _, below9 HP9.out.q.bel HP9.out.q.geq⟩
    ·have t1 : (ee == 0) = false := beq_eq_false_iff_ne.2 he
     have t2 : (ee != 0) = true := bne_iff_ne.2 he
     rw [if_neg (fun h => he h.1)] at HRR
     clear he
     go_wp2_with (go_at_call 9; (with_reducible refine (enc_len (k := k) L7.out (Kd.R_reads' HP.out.kr).2.2 (Kd.R_reads' HP.out.kr).2.1 (Kd.R_reads' HP.out.wr).2.2 (Kd.R_reads' HP.out.wr).2.1 HEN.out).mono ?_); rintro e9 w9 ⟨rfl, hb⟩; have HP9 := Aside0.mk (HP.out.below hb); obtain ⟨hq0, hqf0, hq1, hqf1, hq2, hqf2, hq3, hqf3, hq4, hqf4, hq5, hqf5, hq6, hqf6, hq7, hqf7, hq8, hqf8⟩ := c9f HP9.out.q.bq;   obtain ⟨hm0, hm1, hm2, hm3, hm4, hm5, hm6, hm7, hm8⟩ := c9 HP9.out.bl;   clear hb)
     refine bodyPost_ret (results_ct rfl _ _ gq 25 #[.int .i64 0, .int .i64 0, .int .i64 0, .int .i64 0, .string (⟨#[]⟩ : ByteArray), .string (⟨#[]⟩ : ByteArray), .bool false, .slice none 0 0, .slice none 0 0] (0, 0) _ rfl (set9 HP9.out.q.bq) Try.underlying25 rfl (by kernel_rfl)) rfl ?_
     exact ⟨_, _, by rw [← HRR]; rfl, by rw [← HRR]; exact Kd.R_nil _ _ _ _ _, by rw [← HRR]; exact Kd.R_nil _ _ _ _ _, below9 HP9.out.q.bel HP9.out.q.geq⟩
/-- What a pack's numbers and texts are as a letter. -/
def letOf (k : Nat) (s : ByteArray) (ns : List Int) (ts : List ByteArray) : Option RLet :=
 if 0 ≤ rd ns 5 ∧ rd ns 5 ≤ (ts.length : Int) - 2 ∧ (ts.length : Int) = 2 + rd ns 5 + 2 * ((ns.length - 6 : Nat) : Int) then
  (record_Encode.f k (rd ns 0) (rd ns 1) (rd ns 2) (rd ns 3) (rdOf ByteArray.empty ts 0) (rdOf ByteArray.empty ts 1) (rd ns 4 == 1) ((ts.take (2 + rd ns 5).toNat).drop 2) (wsOf (ns.drop 6) (ts.drop (2 + rd ns 5).toNat) (ns.length - 6))).bind fun be => if be.2 = 0 ∧ be.1 = s then some ((rd ns 0), (rd ns 1), (rd ns 2), (rd ns 3), (rdOf ByteArray.empty ts 0), (rdOf ByteArray.empty ts 1), (rd ns 4 == 1), ((ts.take (2 + rd ns 5).toNat).drop 2), wsOf (ns.drop 6) (ts.drop (2 + rd ns 5).toNat) (ns.length - 6), 0) else some noLet
 else some noLet
def decF (k : Nat) (s : ByteArray) : Option RLet :=
 (pack_Decode.f s).bind fun d => if d.2.2.2 = 0 ∧ 6 ≤ d.1.length ∧ 2 ≤ d.2.1.length then letOf k s d.1 d.2.1 else some noLet
theorem nolet_E {w : World} {e : Ending} {w' : World} (h : NoLetE w e w') : RLetE w noLet e w' := ⟨.slice none 0 0, .slice none 0 0, h.1, Kd.R_nil _ _ _ _ _, Kd.R_nil _ _ _ _ _, h.2⟩
theorem decF_calls (k : Nat) (s : ByteArray) (r : RLet) (w : World) (h : decF k s = some r) : Calls Try.prog 18 #[.string s] w (RLetE w r) := by
 unfold decF at h
 cases hd : pack_Decode.f s with
 |none => rw [hd] at h; cases h
 |some d =>
  obtain ⟨ns, ts, p, e⟩ := d
  rw [hd, Option.bind_some] at h
  have hl : ns.length ≤ 1024 ∧ ts.length ≤ 1024 := by
   unfold pack_Decode.f at hd
   split at hd
   ·simp only [Option.some.injEq, Prod.mk.injEq] at hd
    rw [← hd.1, ← hd.2.1]; exact DecLen.dec_len s
   ·cases hd
  have no : ∀ (_ : Calls Try.prog 18 #[.string s] w (NoLetE w)) (_ : some noLet = some r), Calls Try.prog 18 #[.string s] w (RLetE w r) := fun hc hr => by
   obtain rfl := Option.some.inj hr
   exact hc.mono fun e w' he => nolet_E he
  by_cases c : e = 0 ∧ 6 ≤ ns.length ∧ 2 ≤ ts.length
  ·rw [if_pos c] at h
   obtain ⟨he, hn, ht⟩ := c
   have he' : e = 0 := he
   subst he'
   unfold letOf at h
   by_cases m : 0 ≤ rd ns 5 ∧ rd ns 5 ≤ (ts.length : Int) - 2 ∧ (ts.length : Int) = 2 + rd ns 5 + 2 * ((ns.length - 6 : Nat) : Int)
   ·rw [if_pos m] at h
    cases hb : record_Encode.f k (rd ns 0) (rd ns 1) (rd ns 2) (rd ns 3) (rdOf ByteArray.empty ts 0) (rdOf ByteArray.empty ts 1) (rd ns 4 == 1) ((ts.take (2 + rd ns 5).toNat).drop 2) (wsOf (ns.drop 6) (ts.drop (2 + rd ns 5).toNat) (ns.length - 6)) with
    |none => rw [hb] at h; cases h
    |some q =>
     obtain ⟨bb, ee⟩ := q
     rw [hb, Option.bind_some] at h
     refine ld_go s ns ts p w hd hn ht hl.2 hl.1 m.1 m.2.1 m.2.2 k bb ee hb r ?_
     by_cases hx : ee = 0 ∧ bb = s
     ·rw [if_pos hx] at h ⊢
      exact Option.some.inj h
     ·rw [if_neg hx] at h ⊢
      exact Option.some.inj h
   ·rw [if_neg m] at h
    exact no (ld_no s ns ts p 0 w hd hl.2 hl.1 (fun _ _ _ h1 h2 h3 => m ⟨h1, h2, h3⟩)) h
  ·rw [if_neg c] at h
   exact no (ld_no s ns ts p e w hd hl.2 hl.1 (fun h1 h2 h3 _ _ _ => c ⟨h1, h2, h3⟩)) h
end RD
def record_Decode.f (k : Nat) (a0 : ByteArray) : Option (Int × Int × Int × Int × ByteArray × ByteArray × Bool × List ByteArray × List S50 × Int) := RD.decF k a0
theorem record_Decode.calls (k : Nat) (a0 : ByteArray) (r1 r2 r3 r4 : Int) (r5 r6 : ByteArray) (r7 : Bool) (r8 : List ByteArray) (r9 : List S50) (r10 : Int) (w : World) (h : record_Decode.f k a0 = some (r1, r2, r3, r4, r5, r6, r7, r8, r9, r10)) :
  Calls Try.prog 18 #[.string a0] w fun e w' => ∃ v7_ v8_ : Value, e = .returned (.tuple #[.agg #[.int .i64 r1, .int .i64 r2, .int .i64 r3, .int .i64 r4, .string r5, .string r6, .bool r7, v7_, v8_], .int .i64 r10]) ∧ Kd.R Kd.string 9 w' w.heap.size (fun _ => True) v7_ r8 ∧ Kd.R k50 50 w' w.heap.size (fun _ => True) v8_ r9 ∧ Below w.heap.size w w' := RD.decF_calls k a0 (r1, r2, r3, r4, r5, r6, r7, r8, r9, r10) w h
end Go.Proofs.Ytbfjbcaabijpfaa.Al

namespace Go.Proofs.Ytbfjbcaabijpfaa.PackDec
open Go.RowKit Go.Proofs.Ytbfjbcaabijpfaa.Base Go.Proofs.Ytbfjbcaabijpfaa.PackMath Go.Proofs.Ytbfjbcaabijpfaa.Al Go.Proofs.YtbfjbcaabijpfaaW.PrintWords Go.Proofs.YtbfjbcaabijpfaaW.PrintLast Go.Proofs.YtbfjbcaabijpfaaW.PrintMore
def fin2 (s : ByteArray) (p : Nat) (r : Nat × Nat × Int) : Int × Int × Int :=
 if r.2.2 = 0 then (r.1, ((p + r.2.1 : Nat) : Int), 0) else if r.2.2 = 50 then (0, s.size, 50) else (0, p, 3)
theorem read_l0 (s : ByteArray) (p : Nat) (hs : s.size ≤ 140737488355328) : ∀ (d i n : Nat), i + d = 9 → n < 2 ^ (7 * i) → p + i ≤ s.size → Ev (fun k => corncribref06_read.l0 k s p n i) (fin2 s p (pn d i n (rest s (p + i))))
 |0, i, n, h, hn, hp => by
  refine Ev.succ ?_
  simp only [corncribref06_read.l0]
  refine Ev.neg (by omega) ?_
  simp only [pn, fin2]
  exact Ev.now _
 |d + 1, i, n, h, hn, hp => by
  have e0 : wrap64 ((p : Int) + (i : Int)) = ((p + i : Nat) : Int) := by rw [wrap_id (by omega) (by omega)]; omega
  refine Ev.succ ?_
  simp only [corncribref06_read.l0]
  rw [e0]
  refine Ev.pos (by omega) ?_
  by_cases hend : p + i = s.size
  ·refine Ev.pos (by omega) ?_
   rw [rest_end (by omega)]
   simp only [pn, fin2]
   exact Ev.now _
  ·refine Ev.neg (by omega) (Ev.pos (by omega) (Ev.pos (by omega) (Ev.pos (by rw [wrap_id (by omega) (by omega)]; omega) ?_)))
   rw [rest_at (by omega)]
   have hbr := bt_range s ((p + i : Nat) : Int)
   generalize bt s ((p + i : Nat) : Int) = b at hbr ⊢
   rw [wrap_id (n := b) (by omega) (by omega)]
   have em : Int.tmod b 128 = (((b % 128).toNat : Nat) : Int) := by rw [Int.tmod_eq_emod_of_nonneg (by omega)]; omega
   have hx : (b % 128).toNat < 128 := by omega
   rw [em, lay_i64 n _ i (by omega) hn hx]
   have hsm := next_small n _ i hn hx
   by_cases hb : b < 128
   ·have epn : pn (d + 1) i n (b :: rest s (p + i + 1)) = if b = 0 ∧ 0 < i then (0, 0, 3) else (n + (b % 128).toNat * 2 ^ (7 * i), i + 1, 0) := by
     show (if b < 128 then _ else _) = _
     rw [if_pos hb]
    rw [epn]
    have e4 : wrap64 (((p + i : Nat) : Int) + 1) = ((p + (i + 1) : Nat) : Int) := by rw [wrap_id (by omega) (by omega)]; omega
    rw [e4]
    clear hsm em epn hbr
    generalize n + (b % 128).toNat * 2 ^ (7 * i) = V
    refine Ev.pos hb ?_
    by_cases hb0 : b = 0
    ·refine Ev.pos hb0 ?_
     by_cases hi : 0 < i
     ·refine Ev.pos (by omega) ?_
      rw [if_pos ⟨hb0, hi⟩]
      simp only [fin2]
      exact Ev.now _
     ·refine Ev.neg (by omega) ?_
      rw [if_neg (by omega)]
      simp only [fin2, if_true]
      exact Ev.now _
    ·refine Ev.neg hb0 ?_
     rw [if_neg (by omega)]
     simp only [fin2, if_true]
     exact Ev.now _
   ·have epn : pn (d + 1) i n (b :: rest s (p + i + 1)) = pn d (i + 1) (n + (b % 128).toNat * 2 ^ (7 * i)) (rest s (p + (i + 1))) := by
     show (if b < 128 then _ else _) = _
     rw [if_neg hb]
     rfl
    rw [epn]
    refine Ev.neg hb ?_
    rw [show wrap64 ((i : Int) + 1) = ((i + 1 : Nat) : Int) from by rw [wrap_id (by omega) (by omega)]; omega]
    exact read_l0 s p hs d (i + 1) _ (by omega) hsm (by omega)
theorem read_ev (s : ByteArray) (p : Nat) (hs : s.size ≤ 140737488355328) (hp : p ≤ s.size) : Ev (fun k => corncribref06_read.f k s p) (((rdn s p).1 : Int), ((rdn s p).2.1 : Int), (rdn s p).2.2) := by
 have h := read_l0 s p hs 9 0 0 rfl (by simp) hp
 rw [Nat.add_zero] at h
 have e : fin2 s p (pn 9 0 0 (rest s p)) = (((rdn s p).1 : Int), ((rdn s p).2.1 : Int), (rdn s p).2.2) := by
  have he := pn_errs 9 0 0 (rest s p)
  unfold fin2 rdn
  generalize pn 9 0 0 (rest s p) = r at he ⊢
  obtain ⟨v, k, e⟩ := r
  simp only at he ⊢
  rcases he with rfl | ⟨rfl, rfl⟩ | ⟨rfl, rfl⟩ <;> simp
 rw [e] at h
 exact h
theorem count_ev (s : ByteArray) (p most : Nat) (hs : s.size ≤ 140737488355328) (hp : p ≤ s.size) : Ev (fun k => corncribref06_count.f k s p most) (((cnt s p most).1 : Int), ((cnt s p most).2.1 : Int), (cnt s p most).2.2) := by
 unfold corncribref06_count.f cnt
 refine Ev.bind (read_ev s p hs hp) ?_
 generalize rdn s p = r
 obtain ⟨v, q, e⟩ := r
 simp only
 by_cases he : e = 0
 ·refine Ev.pos he ?_
  by_cases hm : most < v
  ·refine Ev.pos (by omega) ?_
   rw [if_pos ⟨he, hm⟩]
   exact Ev.now _
  ·refine Ev.neg (by omega) ?_
   rw [if_neg (by omega)]
   exact Ev.now _
 ·refine Ev.neg he ?_
  rw [if_neg (by simp [he])]
  exact Ev.now _
theorem read_calls (s : ByteArray) (p : Nat) (pi : Int) (hpi : pi = (p : Int)) (hs : s.size ≤ 140737488355328) (hp : p ≤ s.size) (w : World) :
  Calls Try.prog 49 #[.string s, .int .i64 pi] w fun x w' => x = .returned (.tuple #[.int .i64 ((rdn s p).1 : Int), .int .i64 ((rdn s p).2.1 : Int), .int .i64 (rdn s p).2.2]) ∧ Drawn0 w w' := by
 subst hpi
 obtain ⟨k, hk⟩ := Ev.rounds (read_ev s p hs hp)
 exact corncribref06_read.calls k s p _ _ _ w hk
theorem count_calls (s : ByteArray) (p most : Nat) (pi mi : Int) (hpi : pi = (p : Int)) (hmi : mi = (most : Int)) (hs : s.size ≤ 140737488355328) (hp : p ≤ s.size) (w : World) :
  Calls Try.prog 48 #[.string s, .int .i64 pi, .int .i64 mi] w fun x w' => x = .returned (.tuple #[.int .i64 ((cnt s p most).1 : Int), .int .i64 ((cnt s p most).2.1 : Int), .int .i64 (cnt s p most).2.2]) ∧ Drawn0 w w' := by
 subst hpi hmi
 obtain ⟨k, hk⟩ := Ev.rounds (count_ev s p most hs hp)
 exact corncribref06_count.calls k s p most _ _ _ w hk
end Go.Proofs.Ytbfjbcaabijpfaa.PackDec
