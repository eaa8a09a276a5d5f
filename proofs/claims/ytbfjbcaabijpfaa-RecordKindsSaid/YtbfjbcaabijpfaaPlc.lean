/- What the laws stand on, in one text: functions of the program by their contracts, and the plain mathematics behind them (8 of them). -/
import Derived.Test.YtbfjbcaabijpfaaPlb
import Derived.Deep.RegionHeld3
import Derived.Deep.RegionLaw
import Derived.Test.YtbfjbcaabijpfaaWWords
import Derived.Test.YtbfjbcaabijpfaaRows
import Derived.ChangeArms
import Derived.ChangeShapes
import Derived.SizedLaws

/- record.Encode by its contract: Check, and the pack of the record's numbers and texts. An own text in the printer's form. -/
namespace Go.Proofs.Ytbfjbcaabijpfaa.Al
open Go.RowKit Go.Proofs.RegT Go.Proofs.Ytbfjbcaabijpfaa.Base Go.Proofs.Ytbfjbcaabijpfaa.LetSpec Go.Proofs.YtbfjbcaabijpfaaW.PrintWords Go.Proofs.YtbfjbcaabijpfaaW.PrintLast Go.Proofs.YtbfjbcaabijpfaaW.PrintMore
set_option linter.unusedVariables false
set_option linter.unusedSimpArgs false
def oneI (b : Bool) : Int := if b = true then 1 else 0
theorem one_calls (b : Bool) (w : World) : Calls Try.prog 20 #[.bool b] w fun e w' => e = .returned (.int .i64 (oneI b)) ∧ Below w.heap.size w w' := by
 refine (record_one.calls b (oneI b) w (by cases b <;> rfl)).mono ?_
 rintro e w' ⟨rfl, hd⟩
 obtain ⟨nd, rfl⟩ := hd.out
 exact ⟨rfl, pw_below_drewN (Below.refl _ _) _⟩
def flagsOf (l : List S50) : List Int := l.map fun x => oneI x.f2
def pairsOf (l : List S50) : List ByteArray := (l.map fun x => [x.f0, x.f1]).flatten
def record_Encode.f (k : Nat) (a0_0 : Int) (a0_1 : Int) (a0_2 : Int) (a0_3 : Int) (a0_4 : ByteArray) (a0_5 : ByteArray) (a0_6 : Bool) (l0_7 : List ByteArray) (l0_8 : List (S50)) : Option (ByteArray × Int) :=
 (record_Check.f a0_0 a0_1 a0_2 a0_3 a0_4 a0_5 a0_6 l0_7 l0_8).bind fun t => if t = 0 then (if l0_7.length ≤ 1000000 ∧ l0_8.length ≤ 1000000 then pack_Encode.f k ([a0_0, a0_1, a0_2, a0_3, oneI a0_6, (l0_7.length : Int)] ++ flagsOf l0_8) ([a0_4, a0_5] ++ l0_7 ++ pairsOf l0_8) else none) else some ((⟨#[]⟩ : ByteArray), t)
theorem record_Encode.mono : ∀ a0_0 a0_1 a0_2 a0_3 a0_4 a0_5 a0_6 l0_7 l0_8 k, LeO (record_Encode.f k a0_0 a0_1 a0_2 a0_3 a0_4 a0_5 a0_6 l0_7 l0_8) (record_Encode.f (k + 1) a0_0 a0_1 a0_2 a0_3 a0_4 a0_5 a0_6 l0_7 l0_8) := by
 intro a0_0 a0_1 a0_2 a0_3 a0_4 a0_5 a0_6 l0_7 l0_8 k
 unfold record_Encode.f
 refine LeO.bind (LeO.refl _) (fun t => LeO.ite (LeO.ite (pack_Encode.mono _ _ _) (LeO.none _)) (LeO.refl _))
/-- The pack under way: the letter's block gl, the pack's block gp, its slices. -/
structure PE (w0 W : World) (gl : Nat) (cs : Array Value) (gp : Nat) (xs : List Int) (ts : List ByteArray) (vN vT : Value) : Prop where
 bl : W.heap[gl]? = some (.cells cs 25 (0, 0))
 bp : W.heap[gp]? = some (.cells #[vN, vT] 48 (0, 0))
 gep : w0.heap.size ≤ gp
 ns : (Kd.int .i64).R 3 W w0.heap.size (fun _ => True) vN xs
 ts : Kd.string.R 9 W w0.heap.size (fun _ => True) vT ts
 bel : Below w0.heap.size w0 W
theorem blkFar {W : World} {g : Nat} {o : Obj} (h : W.heap[g]? = some o) (p : Addr) (hne : g ≠ p.block) (u : Value) : (W.setCell p u).heap[g]? = some o := (Below.heap_setCell W p u g hne).trans h
theorem blkNe {W : World} {g g' t t' : Nat} {cs cs' : Array Value} (h : W.heap[g]? = some (.cells cs t (0, 0))) (h' : W.heap[g']? = some (.cells cs' t' (0, 0))) (ht : t ≠ t') : g ≠ g' := by
 rintro rfl
 rw [h] at h'
 injection h' with h'
 injection h' with _ h'
 exact ht h'
section
variable {w0 W : World} {gl gp : Nat} {cs : Array Value} {xs : List Int} {ts : List ByteArray} {vN vT : Value}
theorem PE.below {W1 : World} (h : PE w0 W gl cs gp xs ts vN vT) (hb : Below W.heap.size W W1) : PE w0 W1 gl cs gp xs ts vN vT where
 bl := blk_below h.bl hb
 bp := blk_below h.bp hb
 gep := h.gep
 ns := Kd.R_below h.ns hb
 ts := Kd.R_below h.ts hb
 bel := below_step h.bel hb
theorem PE.set (h : PE w0 W gl cs gp xs ts vN vT) {g : Nat} {cs' : Array Value} (hq : W.heap[g]? = some (.cells cs' 50 (0, 0))) (hge : w0.heap.size ≤ g) (j : Nat) (u : Value) : PE w0 (W.setCell ⟨g, j, none⟩ u) gl cs gp xs ts vN vT where
 bl := blkFar h.bl _ (blkNe h.bl hq (by decide)) u
 bp := blkFar h.bp _ (blkNe h.bp hq (by decide)) u
 gep := h.gep
 ns := Kd.R_set h.ns hq (by decide) j u
 ts := Kd.R_set h.ts hq (by decide) j u
 bel := below_set h.bel hge
theorem PE.drew (h : PE w0 W gl cs gp xs ts vN vT) : PE w0 W.drew gl cs gp xs ts vN vT := h.below (below_drew (Below.refl _ _))
/-- The new slices are stored. -/
theorem PE.of {w3 : World} {vN' vT' : Value} (hl : w3.heap[gl]? = some (.cells cs 25 (0, 0))) (hb : Below w0.heap.size w0 w3) (hn : (Kd.int .i64).R 3 w3 w0.heap.size (fun _ => True) vN xs) (ht : Kd.string.R 9 w3 w0.heap.size (fun _ => True) vT ts) (hq : w3.heap[gp]? = some (.cells #[vN', vT'] 48 (0, 0))) (hge : w0.heap.size ≤ gp) : PE w0 ((w3.setCell ⟨gp, 0, none⟩ vN).setCell ⟨gp, 1, none⟩ vT) gl cs gp xs ts vN vT where
 bl := blkFar (blkFar hl _ (blkNe hl hq (by decide)) _) _ (blkNe hl hq (by decide)) _
 bp := by simpa using blk_set (blk_set hq 0 vN) 1 vT
 gep := hge
 ns := Kd.R_set (Kd.R_set hn hq (by decide) 0 vN) (by simpa using blk_set hq 0 vN) (by decide) 1 vT
 ts := Kd.R_set (Kd.R_set ht hq (by decide) 0 vN) (by simpa using blk_set hq 0 vN) (by decide) 1 vT
 bel := below_set (below_set hb hge) hge
theorem round_less {n i : Nat} {x : Int} (hx : x = (i : Int)) (h : i < n) : n - (intOf (.int .i64 (x + 1))).toNat < n - (intOf (.int .i64 x)).toNat := by simp [intOf]; omega
theorem pairs_len (l : List S50) : (pairsOf l).length = 2 * l.length := by
 unfold pairsOf
 induction l with
 |nil => rfl
 |cons x l ih => simp only [List.map_cons, List.flatten_cons, List.length_append, List.length_cons, List.length_nil]; omega
theorem flags_step {l : List S50} {i : Nat} (h : i < l.length) : flagsOf (l.take (i + 1)) = flagsOf (l.take i) ++ [oneI l[i].f2] := by unfold flagsOf; rw [List.take_succ_eq_append_getElem h, List.map_append]; rfl
theorem pairs_step {l : List S50} {i : Nat} (h : i < l.length) : pairsOf (l.take (i + 1)) = pairsOf (l.take i) ++ [l[i].f0, l[i].f1] := by unfold pairsOf; rw [List.take_succ_eq_append_getElem h, List.map_append, List.flatten_append]; simp only [List.map_cons, List.map_nil, List.flatten_cons, List.flatten_nil, List.append_nil]
end
theorem reps_ints (W : World) (base : Nat) (ok : Nat → Prop) (l : List Int) : Reps ((Kd.int .i64).M W base ok) 1 l (l.map (Value.int .i64)) :=
 ⟨by simp, fun j p hj => by
  have h : (l.map (Value.int .i64))[j]? = some (.int .i64 p) := by rw [List.getElem?_map, hj]; rfl
  obtain ⟨h1, h2⟩ := List.getElem?_eq_some_iff.1 h
  show (List.drop (j * 1) _).take 1 = [Value.int .i64 p]
  rw [Nat.mul_one, List.drop_eq_getElem_cons h1, h2]
  rfl⟩
theorem reps_texts (W : World) (base : Nat) (ok : Nat → Prop) (l : List ByteArray) : Reps (Kd.string.M W base ok) 1 l (l.map Value.string) :=
 ⟨by simp, fun j p hj => by
  have h : (l.map Value.string)[j]? = some (.string p) := by rw [List.getElem?_map, hj]; rfl
  obtain ⟨h1, h2⟩ := List.getElem?_eq_some_iff.1 h
  show (List.drop (j * 1) _).take 1 = [Value.string p]
  rw [Nat.mul_one, List.drop_eq_getElem_cons h1, h2]
  rfl⟩
theorem step_alloc {P : Program} {ops : Array Oper} {o : Oper} {a : Act} {W : World} {Q : Exit → Act → World → Prop} {Kc : Act → World → Prop} {ob : Obj} (hw : Region.wanted o (yielded ops a.tmps) = true) (hrun : (execOp a.eval o).run P W = .ok (.value (.pointer (some ⟨W.heap.size, 0, none⟩))) (W.alloc ob))
  (h : ∀ w1 gz, w1.heap[gz]? = some ob → W.heap.size ≤ gz → Below W.heap.size W w1 → Kc (a.put o.dst (.pointer (some ⟨gz, 0, none⟩))) w1) : if Region.wanted o (yielded ops a.tmps) = true then Oper.wp P o a W Kc Q else Kc (a.put o.dst undef) W :=
 event_step hw hrun (h (W.alloc ob) W.heap.size (blk_new _ _) (Nat.le_refl _) (below_alloc (Below.refl _ _) _))
theorem keep8 {W : World} {gl : Nat} {b0 b1 b2 b3 : Int} {b4 b5 : ByteArray} {t : Bool} {A7 A8 : Option Addr} {n7 c7 n8 c8 : Nat} (h : W.heap[gl]? = some (.cells #[.int .i64 b0, .int .i64 b1, .int .i64 b2, .int .i64 b3, .string b4, .string b5, .bool t, .slice A7 n7 c7, .slice A8 n8 c8] 25 (0, 0))) : W.cell? ⟨gl, 0, none⟩ = some (.int .i64 b0) ∧ W.cell? ⟨gl, 1, none⟩ = some (.int .i64 b1) ∧ W.cell? ⟨gl, 2, none⟩ = some (.int .i64 b2) ∧ W.cell? ⟨gl, 3, none⟩ = some (.int .i64 b3) ∧ W.cell? ⟨gl, 4, none⟩ = some (.string b4) ∧ W.cell? ⟨gl, 5, none⟩ = some (.string b5) ∧ W.cell? ⟨gl, 6, none⟩ = some (.bool t) ∧ W.cell? ⟨gl, 7, none⟩ = some (.slice A7 n7 c7) :=
 ⟨(blk_cell h 0).trans rfl, (blk_cell h 1).trans rfl, (blk_cell h 2).trans rfl, (blk_cell h 3).trans rfl, (blk_cell h 4).trans rfl, (blk_cell h 5).trans rfl, (blk_cell h 6).trans rfl, (blk_cell h 7).trans rfl⟩
set_option maxHeartbeats 8000000 in
set_option maxRecDepth 100000 in
theorem record_Encode.calls (k : Nat) (a0_0 : Int) (a0_1 : Int) (a0_2 : Int) (a0_3 : Int) (a0_4 : ByteArray) (a0_5 : ByteArray) (a0_6 : Bool) (A0_7 : Option Addr) (c0_7 : Nat) (l0_7 : List ByteArray) (A0_8 : Option Addr) (c0_8 : Nat) (l0_8 : List (S50)) (r1 : ByteArray) (r2 : Int) (w : World) (hr0_7 : Kd.C Kd.string w A0_7 l0_7.length l0_7) (hc0_7 : l0_7.length ≤ c0_7) (hr0_8 : Kd.C k50 w A0_8 l0_8.length l0_8) (hc0_8 : l0_8.length ≤ c0_8) (h : record_Encode.f k a0_0 a0_1 a0_2 a0_3 a0_4 a0_5 a0_6 l0_7 l0_8 = some (r1, r2)) :
  Calls Try.prog 9 #[.agg #[.int .i64 a0_0, .int .i64 a0_1, .int .i64 a0_2, .int .i64 a0_3, .string a0_4, .string a0_5, .bool a0_6, .slice A0_7 l0_7.length c0_7, .slice A0_8 l0_8.length c0_8]] w fun e w' => e = .returned (.tuple #[.string r1, .int .i64 r2]) ∧ Below w.heap.size w w' := by
 have hu25 := Try.underlying25
 have hu50 := Try.underlying50
 have hu48 := Try.underlying48
 have HR7 := Aside0.mk hr0_7
 have HC7 := Aside0.mk hc0_7
 have HR8 := Aside0.mk hr0_8
 have HC8 := Aside0.mk hc0_8
 clear hr0_7 hc0_7 hr0_8 hc0_8
 have H : ((record_Check.f a0_0 a0_1 a0_2 a0_3 a0_4 a0_5 a0_6 l0_7 l0_8).bind fun t => if t = 0 then (if l0_7.length ≤ 1000000 ∧ l0_8.length ≤ 1000000 then pack_Encode.f k ([a0_0, a0_1, a0_2, a0_3, oneI a0_6, (l0_7.length : Int)] ++ flagsOf l0_8) ([a0_4, a0_5] ++ l0_7 ++ pairsOf l0_8) else none) else some ((⟨#[]⟩ : ByteArray), t)) = some (r1, r2) := h
 clear h
 replace H := Option.bind_eq_some_iff.mp H
 obtain ⟨t, A20, H⟩ := H
 replace H : (if t = 0 then (if l0_7.length ≤ 1000000 ∧ l0_8.length ≤ 1000000 then pack_Encode.f k ([a0_0, a0_1, a0_2, a0_3, oneI a0_6, (l0_7.length : Int)] ++ flagsOf l0_8) ([a0_4, a0_5] ++ l0_7 ++ pairsOf l0_8) else none) else some ((⟨#[]⟩ : ByteArray), t)) = some (r1, r2) := H
 have A2 := Aside0.mk A20
 clear A20
 by_cases c3 : t = 0
 ·rw [if_pos c3] at H
  subst c3
  by_cases hl : l0_7.length ≤ 1000000 ∧ l0_8.length ≤ 1000000
  ·rw [if_pos hl] at H
   obtain ⟨hl7, hl8⟩ := hl
   have HPK := Aside0.mk H
   clear H
   go_enter Try.func9, Try.ntmps9
   go_wp2_with (first | ((with_reducible refine gate_dst (N := 1) rfl ?_); refine box_event ?hg (N := 1) ?hd (cs := #[.int .i64 a0_0, .int .i64 a0_1, .int .i64 a0_2, .int .i64 a0_3, .string a0_4, .string a0_5, .bool a0_6, .slice A0_7 l0_7.length c0_7, .slice A0_8 l0_8.length c0_8]) (t := 25) ?hr ?_; (case hd => rfl); (case hg => rfl); (case hr => first | (go_simp; done) | (go_simp; rfl)); intro gl hgl w1 hbox hb; have HB := Aside0.mk hb; have BL := Aside0.mk hbox; clear hgl hb hbox; have hcz_0 : w1.cell? ⟨gl, 0, none⟩ = some (.int .i64 a0_0) := (blk_cell BL.out 0).trans rfl; have hcz_1 : w1.cell? ⟨gl, 1, none⟩ = some (.int .i64 a0_1) := (blk_cell BL.out 1).trans rfl; have hcz_2 : w1.cell? ⟨gl, 2, none⟩ = some (.int .i64 a0_2) := (blk_cell BL.out 2).trans rfl; have hcz_3 : w1.cell? ⟨gl, 3, none⟩ = some (.int .i64 a0_3) := (blk_cell BL.out 3).trans rfl; have hcz_4 : w1.cell? ⟨gl, 4, none⟩ = some (.string a0_4) := (blk_cell BL.out 4).trans rfl; have hcz_5 : w1.cell? ⟨gl, 5, none⟩ = some (.string a0_5) := (blk_cell BL.out 5).trans rfl; have hcz_6 : w1.cell? ⟨gl, 6, none⟩ = some (.bool a0_6) := (blk_cell BL.out 6).trans rfl; have hcz_7 : w1.cell? ⟨gl, 7, none⟩ = some (.slice A0_7 l0_7.length c0_7) := (blk_cell BL.out 7).trans rfl; have hcz_8 : w1.cell? ⟨gl, 8, none⟩ = some (.slice A0_8 l0_8.length c0_8) := (blk_cell BL.out 8).trans rfl) | (go_at_call 11; refine (record_Check.calls a0_0 a0_1 a0_2 a0_3 a0_4 a0_5 a0_6 _ _ l0_7 _ _ l0_8 _ _ (Kd.C_below HR7.out HB.out) HC7.out (Kd.C_below HR8.out HB.out) HC8.out A2.out).mono ?_; rintro e w2 ⟨rfl, hb⟩; have HB2 := Aside0.mk (below_step HB.out hb); have BL2 := Aside0.mk (blk_below BL.out hb); clear hb))
   clear hcz_0 hcz_1 hcz_2 hcz_3 hcz_4 hcz_5 hcz_6 hcz_7 hcz_8 HB BL
   have HB := Aside0.mk (below_drew HB2.out)
   have HL := Aside0.mk (blk_drew BL2.out)
   go_cut [5] from 8 (fun v5 wc => ∃ (gp : Nat) (vN vT : Value), v5 = .pointer (some ⟨gp, 0, none⟩) ∧ Aside0 (PE w wc gl #[.int .i64 a0_0, .int .i64 a0_1, .int .i64 a0_2, .int .i64 a0_3, .string a0_4, .string a0_5, .bool a0_6, .slice A0_7 l0_7.length c0_7, .slice A0_8 l0_8.length c0_8] gp [a0_0, a0_1, a0_2, a0_3, (oneI a0_6), (l0_7.length : Int)] ([a0_4, a0_5] ++ l0_7) vN vT))
   case first =>
    refine wp_region_noPanic ?_
    refine rt_begin (S := (fun W => W.heap[gl]? = some (Obj.cells #[.int .i64 a0_0, .int .i64 a0_1, .int .i64 a0_2, .int .i64 a0_3, .string a0_4, .string a0_5, .bool a0_6, .slice A0_7 l0_7.length c0_7, .slice A0_8 l0_8.length c0_8] 25 (0, 0)))) (s := 25) (by kernel_rfl) ?_
    refine AnyT.taken (i := 0) (v := ?v1) rfl (by kernel_rfl) (by kernel_rfl) (by kernel_rfl) (by kernel_rfl) (fun _ _ _ h => h) (Or.inl ⟨by rfl, ?y1⟩) ?s1 ?_
    case y1 =>
     intro wSW hSW
     (obtain ⟨k0, k1, k2, k3, k4, k5, k6, k7⟩ := keep8 hSW; go_simp)
     all_goals with_reducible rfl
    case s1 => exact HL.out
    try simp only [Act.put, List.setIfInBounds_toArray, List.set_cons_zero, List.set_cons_succ]
    refine AnyT.taken (i := 1) (v := ?v2) rfl (by kernel_rfl) (by kernel_rfl) (by kernel_rfl) (by kernel_rfl) (fun _ _ _ h => h) (Or.inl ⟨by rfl, ?y2⟩) ?s2 ?_
    case y2 =>
     intro wSW hSW
     (obtain ⟨k0, k1, k2, k3, k4, k5, k6, k7⟩ := keep8 hSW; go_simp)
     all_goals with_reducible rfl
    case s2 => exact HL.out
    try simp only [Act.put, List.setIfInBounds_toArray, List.set_cons_zero, List.set_cons_succ]
    refine AnyT.taken (i := 2) (v := ?v3) rfl (by kernel_rfl) (by kernel_rfl) (by kernel_rfl) (by kernel_rfl) (fun _ _ _ h => h) (Or.inl ⟨by rfl, ?y3⟩) ?s3 ?_
    case y3 =>
     intro wSW hSW
     (obtain ⟨k0, k1, k2, k3, k4, k5, k6, k7⟩ := keep8 hSW; go_simp)
     all_goals with_reducible rfl
    case s3 => exact HL.out
    try simp only [Act.put, List.setIfInBounds_toArray, List.set_cons_zero, List.set_cons_succ]
    refine AnyT.taken (i := 3) (v := ?v4) rfl (by kernel_rfl) (by kernel_rfl) (by kernel_rfl) (by kernel_rfl) (fun _ _ _ h => h) (Or.inl ⟨by rfl, ?y4⟩) ?s4 ?_
    case y4 =>
     intro wSW hSW
     (obtain ⟨k0, k1, k2, k3, k4, k5, k6, k7⟩ := keep8 hSW; go_simp)
     all_goals with_reducible rfl
    case s4 => exact HL.out
    try simp only [Act.put, List.setIfInBounds_toArray, List.set_cons_zero, List.set_cons_succ]
    refine AnyT.taken (i := 4) (v := ?v5) rfl (by kernel_rfl) (by kernel_rfl) (by kernel_rfl) (by kernel_rfl) (fun _ _ _ h => h) (Or.inl ⟨by rfl, ?y5⟩) ?s5 ?_
    case y5 =>
     intro wSW hSW
     (obtain ⟨k0, k1, k2, k3, k4, k5, k6, k7⟩ := keep8 hSW; go_simp)
     all_goals with_reducible rfl
    case s5 => exact HL.out
    try simp only [Act.put, List.setIfInBounds_toArray, List.set_cons_zero, List.set_cons_succ]
    refine AnyT.taken (i := 5) (v := ?v6) rfl (by kernel_rfl) (by kernel_rfl) (by kernel_rfl) (by kernel_rfl) (fun _ _ _ h => h) (Or.inl ⟨by rfl, ?y6⟩) ?s6 ?_
    case y6 =>
     intro wSW hSW
     (obtain ⟨k0, k1, k2, k3, k4, k5, k6, k7⟩ := keep8 hSW; go_simp)
     all_goals with_reducible rfl
    case s6 => exact HL.out
    try simp only [Act.put, List.setIfInBounds_toArray, List.set_cons_zero, List.set_cons_succ]
    refine AnyT.taken (i := 6) (v := ?v7) rfl (by kernel_rfl) (by kernel_rfl) (by kernel_rfl) (by kernel_rfl) (fun _ _ _ h => h) (Or.inl ⟨by rfl, ?y7⟩) ?s7 ?_
    case y7 =>
     intro wSW hSW
     (obtain ⟨k0, k1, k2, k3, k4, k5, k6, k7⟩ := keep8 hSW; go_simp)
     all_goals with_reducible rfl
    case s7 => exact HL.out
    try simp only [Act.put, List.setIfInBounds_toArray, List.set_cons_zero, List.set_cons_succ]
    refine AnyT.taken (i := 7) (v := ?v8) rfl (by kernel_rfl) (by kernel_rfl) (by kernel_rfl) (by kernel_rfl) (fun _ _ _ h => h) (Or.inl ⟨by rfl, ?y8⟩) ?s8 ?_
    case y8 =>
     intro wSW hSW
     (obtain ⟨k0, k1, k2, k3, k4, k5, k6, k7⟩ := keep8 hSW; go_simp)
     all_goals with_reducible rfl
    case s8 => exact HL.out
    try simp only [Act.put, List.setIfInBounds_toArray, List.set_cons_zero, List.set_cons_succ]
    refine AnyT.taken (i := 8) (v := ?v9) rfl (by kernel_rfl) (by kernel_rfl) (by kernel_rfl) (by kernel_rfl) (fun _ _ _ h => h) (Or.inl ⟨by rfl, ?y9⟩) ?s9 ?_
    case y9 =>
     intro wSW hSW
     (obtain ⟨k0, k1, k2, k3, k4, k5, k6, k7⟩ := keep8 hSW; go_simp)
     all_goals with_reducible rfl
    case s9 => exact HL.out
    try simp only [Act.put, List.setIfInBounds_toArray, List.set_cons_zero, List.set_cons_succ]
    refine AnyT.taken (i := 9) (v := ?v10) rfl (by kernel_rfl) (by kernel_rfl) (by kernel_rfl) (by kernel_rfl) (fun _ _ _ h => h) (Or.inl ⟨by rfl, ?y10⟩) ?s10 ?_
    case y10 =>
     intro wSW hSW
     (obtain ⟨k0, k1, k2, k3, k4, k5, k6, k7⟩ := keep8 hSW; go_simp)
     all_goals with_reducible rfl
    case s10 => exact HL.out
    try simp only [Act.put, List.setIfInBounds_toArray, List.set_cons_zero, List.set_cons_succ]
    refine AnyT.taken (i := 11) (v := ?v11) rfl (by kernel_rfl) (by kernel_rfl) (by kernel_rfl) (by kernel_rfl) (fun _ _ _ h => h) (Or.inl ⟨by rfl, ?y11⟩) ?s11 ?_
    case y11 =>
     intro wSW hSW
     (obtain ⟨k0, k1, k2, k3, k4, k5, k6, k7⟩ := keep8 hSW; go_simp)
     all_goals with_reducible rfl
    case s11 => exact HL.out
    try simp only [Act.put, List.setIfInBounds_toArray, List.set_cons_zero, List.set_cons_succ]
    refine AnyT.taken (i := 12) (v := ?v12) rfl (by kernel_rfl) (by kernel_rfl) (by kernel_rfl) (by kernel_rfl) (fun _ _ _ h => h) (Or.inl ⟨by rfl, ?y12⟩) ?s12 ?_
    case y12 =>
     intro wSW hSW
     (obtain ⟨k0, k1, k2, k3, k4, k5, k6, k7⟩ := keep8 hSW; go_simp)
     all_goals with_reducible rfl
    case s12 => exact HL.out
    try simp only [Act.put, List.setIfInBounds_toArray, List.set_cons_zero, List.set_cons_succ]
    refine AnyT.taken (i := 13) (v := ?v13) rfl (by kernel_rfl) (by kernel_rfl) (by kernel_rfl) (by kernel_rfl) (fun _ _ _ h => h) (Or.inl ⟨by rfl, ?y13⟩) ?s13 ?_
    case y13 =>
     intro wSW hSW
     (obtain ⟨k0, k1, k2, k3, k4, k5, k6, k7⟩ := keep8 hSW; go_simp)
     all_goals with_reducible rfl
    case s13 => exact HL.out
    try simp only [Act.put, List.setIfInBounds_toArray, List.set_cons_zero, List.set_cons_succ]
    refine AnyT.taken (i := 15) (v := ?v14) rfl (by kernel_rfl) (by kernel_rfl) (by kernel_rfl) (by kernel_rfl) (fun _ _ _ h => h) (Or.inl ⟨by rfl, ?y14⟩) ?s14 ?_
    case y14 =>
     intro wSW hSW
     (obtain ⟨k0, k1, k2, k3, k4, k5, k6, k7⟩ := keep8 hSW; go_simp)
     all_goals with_reducible rfl
    case s14 => exact HL.out
    try simp only [Act.put, List.setIfInBounds_toArray, List.set_cons_zero, List.set_cons_succ]
    refine AnyT.taken (i := 16) (v := ?v15) rfl (by kernel_rfl) (by kernel_rfl) (by kernel_rfl) (by kernel_rfl) (fun _ _ _ h => h) (Or.inl ⟨by rfl, ?y15⟩) ?s15 ?_
    case y15 =>
     intro wSW hSW
     (obtain ⟨k0, k1, k2, k3, k4, k5, k6, k7⟩ := keep8 hSW; go_simp)
     all_goals with_reducible rfl
    case s15 => exact HL.out
    try simp only [Act.put, List.setIfInBounds_toArray, List.set_cons_zero, List.set_cons_succ]
    refine AnyT.taken (i := 17) (v := ?v16) rfl (by kernel_rfl) (by kernel_rfl) (by kernel_rfl) (by kernel_rfl) (fun _ _ _ h => h) (Or.inl ⟨by rfl, ?y16⟩) ?s16 ?_
    case y16 =>
     intro wSW hSW
     (obtain ⟨k0, k1, k2, k3, k4, k5, k6, k7⟩ := keep8 hSW; go_simp)
     all_goals with_reducible rfl
    case s16 => exact HL.out
    try simp only [Act.put, List.setIfInBounds_toArray, List.set_cons_zero, List.set_cons_succ]
    refine AnyT.taken (i := 18) (v := ?v17) rfl (by kernel_rfl) (by kernel_rfl) (by kernel_rfl) (by kernel_rfl) (fun _ _ _ h => h) (Or.inl ⟨by rfl, ?y17⟩) ?s17 ?_
    case y17 =>
     intro wSW hSW
     (obtain ⟨k0, k1, k2, k3, k4, k5, k6, k7⟩ := keep8 hSW; go_simp)
     all_goals with_reducible rfl
    case s17 => exact HL.out
    try simp only [Act.put, List.setIfInBounds_toArray, List.set_cons_zero, List.set_cons_succ]
    refine AnyT.taken (i := 20) (v := ?v18) rfl (by kernel_rfl) (by kernel_rfl) (by kernel_rfl) (by kernel_rfl) (fun _ _ _ h => h) (Or.inl ⟨by rfl, ?y18⟩) ?s18 ?_
    case y18 =>
     intro wSW hSW
     (obtain ⟨k0, k1, k2, k3, k4, k5, k6, k7⟩ := keep8 hSW; go_simp)
     all_goals with_reducible rfl
    case s18 => exact HL.out
    try simp only [Act.put, List.setIfInBounds_toArray, List.set_cons_zero, List.set_cons_succ]
    refine AnyT.taken (i := 21) (v := ?v19) rfl (by kernel_rfl) (by kernel_rfl) (by kernel_rfl) (by kernel_rfl) (fun _ _ _ h => h) (Or.inl ⟨by rfl, ?y19⟩) ?s19 ?_
    case y19 =>
     intro wSW hSW
     (obtain ⟨k0, k1, k2, k3, k4, k5, k6, k7⟩ := keep8 hSW; go_simp)
     all_goals with_reducible rfl
    case s19 => exact HL.out
    try simp only [Act.put, List.setIfInBounds_toArray, List.set_cons_zero, List.set_cons_succ]
    refine AnyT.ready (rs := [10, 19, 24]) (by kernel_rfl) (by simp) (AllT.step rfl (fun K hK => ?b2010) (AllT.step rfl (fun K hK => ?b2019) (AllT.step rfl (fun K hK => ?b2024) AllT.nil)))
    case b2010 =>
     (refine goes_ Try.func20 (by kernel_rfl) rfl #[.bool a0_6] (by rfl) rfl rfl (by (try simp only [List.map_toArray, List.map_cons, List.map_nil]); first | done | rfl) ?_; refine (one_calls a0_6 _).mono ?_; rintro e w9 ⟨rfl, hb⟩; refine ⟨_, rfl, ?_⟩; (try replace FN := Aside0.mk (Kd.R_below FN.out hb)); (try replace FT := Aside0.mk (Kd.R_below FT.out hb)); (try replace FZ := Aside0.mk (blk_below FZ.out hb)); replace HL := Aside0.mk (blk_below HL.out hb); replace HB := Aside0.mk (below_step HB.out hb); clear hb)
     refine hK.out _ _ ?_ ?_
     ·intro _; exact HL.out
     clear hK K
     try simp only [Act.put, List.setIfInBounds_toArray, List.set_cons_zero, List.set_cons_succ]
     refine AnyT.ready (rs := [14, 19, 24]) (by kernel_rfl) (by simp) (AllT.step rfl (fun K hK => ?b2214) (AllT.step rfl (fun K hK => ?b2219) (AllT.step rfl (fun K hK => ?b2224) AllT.nil)))
     case b2214 =>
      (refine Kd.R_lit_step (Kd.int .i64) (w0 := w) w.heap.size 3 (by rfl) (N := 27) (by rfl) (xs := [a0_0, a0_1, a0_2, a0_3, (oneI a0_6), (l0_7.length : Int)]) (inner := [.int .i64 a0_0, .int .i64 a0_1, .int .i64 a0_2, .int .i64 a0_3, .int .i64 (oneI a0_6), .int .i64 (l0_7.length : Int)]) (ok := fun _ => True) (okp := fun _ => True) ?hr (reps_ints _ _ _ [a0_0, a0_1, a0_2, a0_3, (oneI a0_6), (l0_7.length : Int)]) (fun _ h => h) trivial HB.out HB.out.size (by simp) ?_; (case hr => first | (go_simp; done) | (go_simp; rfl)); intro vx w9 ho hb hg hat; (try replace FN := Aside0.mk (Kd.R_grown FN.out hg (fun _ _ => by simp))); (try replace FT := Aside0.mk (Kd.R_grown FT.out hg (fun _ _ => by simp))); (try replace FZ := Aside0.mk (blk_grown FZ.out hg (by simp))); replace HL := Aside0.mk (blk_grown HL.out hg (by simp)); replace HB := Aside0.mk hb; obtain ⟨A27, c27, e9⟩ := Kd.R_slice ho; subst e9; have FN := Aside0.mk ho; clear ho hb hg hat)
      refine hK.out _ _ ?_ ?_
      ·intro _; exact HL.out
      clear hK K
      try simp only [Act.put, List.setIfInBounds_toArray, List.set_cons_zero, List.set_cons_succ]
      refine AnyT.ready (rs := [19, 24]) (by kernel_rfl) (by simp) (AllT.step rfl (fun K hK => ?b2419) (AllT.step rfl (fun K hK => ?b2424) AllT.nil))
      case b2419 =>
       (refine Kd.R_lit_step Kd.string (w0 := w) w.heap.size 9 (by rfl) (N := 32) (by rfl) (xs := [a0_4, a0_5]) (inner := [.string a0_4, .string a0_5]) (ok := fun _ => True) (okp := fun _ => True) ?hr (reps_texts _ _ _ [a0_4, a0_5]) (fun _ h => h) trivial HB.out HB.out.size (by simp) ?_; (case hr => first | (go_simp; done) | (go_simp; rfl)); intro vx w9 ho hb hg hat; (try replace FN := Aside0.mk (Kd.R_grown FN.out hg (fun _ _ => by simp))); (try replace FT := Aside0.mk (Kd.R_grown FT.out hg (fun _ _ => by simp))); (try replace FZ := Aside0.mk (blk_grown FZ.out hg (by simp))); replace HL := Aside0.mk (blk_grown HL.out hg (by simp)); replace HB := Aside0.mk hb; obtain ⟨A32, c32, e9⟩ := Kd.R_slice ho; subst e9; have FT := Aside0.mk ho; clear ho hb hg hat)
       refine hK.out _ _ ?_ ?_
       ·intro _; exact HL.out
       clear hK K
       try simp only [Act.put, List.setIfInBounds_toArray, List.set_cons_zero, List.set_cons_succ]
       refine AnyT.ready (rs := [22, 24]) (by kernel_rfl) (by simp) (AllT.step rfl (fun K hK => ?b2622) (AllT.step rfl (fun K hK => ?b2624) AllT.nil))
       case b2622 =>
        (refine Kd.R_append_rows_step Kd.string (w0 := w) w.heap.size (by rfl) (.tmp 32) (.tmp 34) 22 9 (.string ⟨#[]⟩) 16 (by rfl) Try.underlying22 info9 rfl (by decide) (by omega) (.slice A32 2 c32) [a0_4, a0_5] l0_7 _ _ _ (fun _ => True) (fun _ => False) (by rfl) (by rfl) FT.out (Kd.C_below HR7.out HB.out) (fun _ _ h => h) (fun _ h => h.elim) (fun _ _ => trivial) HB.out HB.out.size (by simp only [List.length_cons, List.length_nil]; omega) ?_; intro vx w9 ho hb hg hat; (try replace FN := Aside0.mk (Kd.R_over FN.out FT.out (by decide) hg)); (try replace FZ := Aside0.mk (blk_grown FZ.out hg (Kd.R_ne FT.out FZ.out (by decide)))); replace HL := Aside0.mk (blk_grown HL.out hg (Kd.R_ne FT.out HL.out (by decide))); replace HB := Aside0.mk hb; obtain ⟨A35, c35, e9⟩ := Kd.R_slice ho; subst e9; replace FT := Aside0.mk ho; clear ho hb hg hat)
        refine hK.out _ _ ?_ ?_
        ·intro _; exact HL.out
        clear hK K
        try simp only [Act.put, List.setIfInBounds_toArray, List.set_cons_zero, List.set_cons_succ]
        refine AnyT.taken (i := 23) (v := ?v28) rfl (by kernel_rfl) (by kernel_rfl) (by kernel_rfl) (by kernel_rfl) (fun _ _ _ h => h) (Or.inl ⟨by rfl, ?y28⟩) ?s28 ?_
        case y28 =>
         intro wSW hSW
         (obtain ⟨k0, k1, k2, k3, k4, k5, k6, k7⟩ := keep8 hSW; go_simp)
         all_goals with_reducible rfl
        case s28 => exact HL.out
        try simp only [Act.put, List.setIfInBounds_toArray, List.set_cons_zero, List.set_cons_succ]
        refine AnyT.ready (rs := [24]) (by kernel_rfl) (by simp) (AllT.step rfl (fun K hK => ?b2924) AllT.nil)
        case b2924 =>
         (refine step_alloc (ob := .cells #[.slice none 0 0, .slice none 0 0] 48) (by rfl) ?hr ?_; (case hr => first | (go_simp; done) | (go_simp; rfl)); intro w9 gz hq hge hb; have FG : Aside0 (w.heap.size ≤ gz) := ⟨Nat.le_trans HB.out.size hge⟩; (try replace FN := Aside0.mk (Kd.R_below FN.out hb)); (try replace FT := Aside0.mk (Kd.R_below FT.out hb)); (try replace FZ := Aside0.mk (blk_below FZ.out hb)); replace HL := Aside0.mk (blk_below HL.out hb); replace HB := Aside0.mk (below_step HB.out hb); have FZ := Aside0.mk hq; clear hq hge hb)
         refine hK.out _ _ ?_ ?_
         ·intro _; exact HL.out
         clear hK K
         try simp only [Act.put, List.setIfInBounds_toArray, List.set_cons_zero, List.set_cons_succ]
         refine AnyT.ready (rs := [25]) (by kernel_rfl) (by simp) (AllT.step rfl (fun K hK => ?b3125) AllT.nil)
         case b3125 =>
          (have hs0 := (blk_cell FZ.out 0).trans rfl; have hs1 := (blk_cell FZ.out 1).trans rfl; have hf0 := blk_frozen FZ.out 0; have hf1 := blk_frozen FZ.out 1; go_simp)
          refine hK.out _ _ ?_ ?_
          ·exact past (by kernel_rfl)
          clear hK K
          try simp only [Act.put, List.setIfInBounds_toArray, List.set_cons_zero, List.set_cons_succ]
          refine AnyT.done (by kernel_rfl) ?_ _
          refine NoPanic.normal ?_
          (go_wp2; go_meet)
          (case rel => exact ⟨gz, .slice A27 6 c27, .slice A35 (l0_7.length + 2) c35, rfl, ⟨PE.of (vN' := .slice none 0 0) (vT' := .slice none 0 0) HL.out HB.out FN.out FT.out FZ.out FG.out⟩⟩)
       case b2624 =>
        (refine step_alloc (ob := .cells #[.slice none 0 0, .slice none 0 0] 48) (by rfl) ?hr ?_; (case hr => first | (go_simp; done) | (go_simp; rfl)); intro w9 gz hq hge hb; have FG : Aside0 (w.heap.size ≤ gz) := ⟨Nat.le_trans HB.out.size hge⟩; (try replace FN := Aside0.mk (Kd.R_below FN.out hb)); (try replace FT := Aside0.mk (Kd.R_below FT.out hb)); (try replace FZ := Aside0.mk (blk_below FZ.out hb)); replace HL := Aside0.mk (blk_below HL.out hb); replace HB := Aside0.mk (below_step HB.out hb); have FZ := Aside0.mk hq; clear hq hge hb)
        refine hK.out _ _ ?_ ?_
        ·intro _; exact HL.out
        clear hK K
        try simp only [Act.put, List.setIfInBounds_toArray, List.set_cons_zero, List.set_cons_succ]
        refine AnyT.ready (rs := [22]) (by kernel_rfl) (by simp) (AllT.step rfl (fun K hK => ?b3522) AllT.nil)
        case b3522 =>
         (refine Kd.R_append_rows_step Kd.string (w0 := w) w.heap.size (by rfl) (.tmp 32) (.tmp 34) 22 9 (.string ⟨#[]⟩) 16 (by rfl) Try.underlying22 info9 rfl (by decide) (by omega) (.slice A32 2 c32) [a0_4, a0_5] l0_7 _ _ _ (fun _ => True) (fun _ => False) (by rfl) (by rfl) FT.out (Kd.C_below HR7.out HB.out) (fun _ _ h => h) (fun _ h => h.elim) (fun _ _ => trivial) HB.out HB.out.size (by simp only [List.length_cons, List.length_nil]; omega) ?_; intro vx w9 ho hb hg hat; (try replace FN := Aside0.mk (Kd.R_over FN.out FT.out (by decide) hg)); (try replace FZ := Aside0.mk (blk_grown FZ.out hg (Kd.R_ne FT.out FZ.out (by decide)))); replace HL := Aside0.mk (blk_grown HL.out hg (Kd.R_ne FT.out HL.out (by decide))); replace HB := Aside0.mk hb; obtain ⟨A35, c35, e9⟩ := Kd.R_slice ho; subst e9; replace FT := Aside0.mk ho; clear ho hb hg hat)
         refine hK.out _ _ ?_ ?_
         ·intro _; exact HL.out
         clear hK K
         try simp only [Act.put, List.setIfInBounds_toArray, List.set_cons_zero, List.set_cons_succ]
         refine AnyT.taken (i := 23) (v := ?v37) rfl (by kernel_rfl) (by kernel_rfl) (by kernel_rfl) (by kernel_rfl) (fun _ _ _ h => h) (Or.inl ⟨by rfl, ?y37⟩) ?s37 ?_
         case y37 =>
          intro wSW hSW
          (obtain ⟨k0, k1, k2, k3, k4, k5, k6, k7⟩ := keep8 hSW; go_simp)
          all_goals with_reducible rfl
         case s37 => exact HL.out
         try simp only [Act.put, List.setIfInBounds_toArray, List.set_cons_zero, List.set_cons_succ]
         refine AnyT.ready (rs := [25]) (by kernel_rfl) (by simp) (AllT.step rfl (fun K hK => ?b3825) AllT.nil)
         case b3825 =>
          (have hs0 := (blk_cell FZ.out 0).trans rfl; have hs1 := (blk_cell FZ.out 1).trans rfl; have hf0 := blk_frozen FZ.out 0; have hf1 := blk_frozen FZ.out 1; go_simp)
          refine hK.out _ _ ?_ ?_
          ·exact past (by kernel_rfl)
          clear hK K
          try simp only [Act.put, List.setIfInBounds_toArray, List.set_cons_zero, List.set_cons_succ]
          refine AnyT.done (by kernel_rfl) ?_ _
          refine NoPanic.normal ?_
          (go_wp2; go_meet)
          (case rel => exact ⟨gz, .slice A27 6 c27, .slice A35 (l0_7.length + 2) c35, rfl, ⟨PE.of (vN' := .slice none 0 0) (vT' := .slice none 0 0) HL.out HB.out FN.out FT.out FZ.out FG.out⟩⟩)
      case b2424 =>
       (refine step_alloc (ob := .cells #[.slice none 0 0, .slice none 0 0] 48) (by rfl) ?hr ?_; (case hr => first | (go_simp; done) | (go_simp; rfl)); intro w9 gz hq hge hb; have FG : Aside0 (w.heap.size ≤ gz) := ⟨Nat.le_trans HB.out.size hge⟩; (try replace FN := Aside0.mk (Kd.R_below FN.out hb)); (try replace FT := Aside0.mk (Kd.R_below FT.out hb)); (try replace FZ := Aside0.mk (blk_below FZ.out hb)); replace HL := Aside0.mk (blk_below HL.out hb); replace HB := Aside0.mk (below_step HB.out hb); have FZ := Aside0.mk hq; clear hq hge hb)
       refine hK.out _ _ ?_ ?_
       ·intro _; exact HL.out
       clear hK K
       try simp only [Act.put, List.setIfInBounds_toArray, List.set_cons_zero, List.set_cons_succ]
       refine AnyT.ready (rs := [19]) (by kernel_rfl) (by simp) (AllT.step rfl (fun K hK => ?b4219) AllT.nil)
       case b4219 =>
        (refine Kd.R_lit_step Kd.string (w0 := w) w.heap.size 9 (by rfl) (N := 32) (by rfl) (xs := [a0_4, a0_5]) (inner := [.string a0_4, .string a0_5]) (ok := fun _ => True) (okp := fun _ => True) ?hr (reps_texts _ _ _ [a0_4, a0_5]) (fun _ h => h) trivial HB.out HB.out.size (by simp) ?_; (case hr => first | (go_simp; done) | (go_simp; rfl)); intro vx w9 ho hb hg hat; (try replace FN := Aside0.mk (Kd.R_grown FN.out hg (fun _ _ => by simp))); (try replace FT := Aside0.mk (Kd.R_grown FT.out hg (fun _ _ => by simp))); (try replace FZ := Aside0.mk (blk_grown FZ.out hg (by simp))); replace HL := Aside0.mk (blk_grown HL.out hg (by simp)); replace HB := Aside0.mk hb; obtain ⟨A32, c32, e9⟩ := Kd.R_slice ho; subst e9; have FT := Aside0.mk ho; clear ho hb hg hat)
        refine hK.out _ _ ?_ ?_
        ·intro _; exact HL.out
        clear hK K
        try simp only [Act.put, List.setIfInBounds_toArray, List.set_cons_zero, List.set_cons_succ]
        refine AnyT.ready (rs := [22]) (by kernel_rfl) (by simp) (AllT.step rfl (fun K hK => ?b4422) AllT.nil)
        case b4422 =>
         (refine Kd.R_append_rows_step Kd.string (w0 := w) w.heap.size (by rfl) (.tmp 32) (.tmp 34) 22 9 (.string ⟨#[]⟩) 16 (by rfl) Try.underlying22 info9 rfl (by decide) (by omega) (.slice A32 2 c32) [a0_4, a0_5] l0_7 _ _ _ (fun _ => True) (fun _ => False) (by rfl) (by rfl) FT.out (Kd.C_below HR7.out HB.out) (fun _ _ h => h) (fun _ h => h.elim) (fun _ _ => trivial) HB.out HB.out.size (by simp only [List.length_cons, List.length_nil]; omega) ?_; intro vx w9 ho hb hg hat; (try replace FN := Aside0.mk (Kd.R_over FN.out FT.out (by decide) hg)); (try replace FZ := Aside0.mk (blk_grown FZ.out hg (Kd.R_ne FT.out FZ.out (by decide)))); replace HL := Aside0.mk (blk_grown HL.out hg (Kd.R_ne FT.out HL.out (by decide))); replace HB := Aside0.mk hb; obtain ⟨A35, c35, e9⟩ := Kd.R_slice ho; subst e9; replace FT := Aside0.mk ho; clear ho hb hg hat)
         refine hK.out _ _ ?_ ?_
         ·intro _; exact HL.out
         clear hK K
         try simp only [Act.put, List.setIfInBounds_toArray, List.set_cons_zero, List.set_cons_succ]
         refine AnyT.taken (i := 23) (v := ?v46) rfl (by kernel_rfl) (by kernel_rfl) (by kernel_rfl) (by kernel_rfl) (fun _ _ _ h => h) (Or.inl ⟨by rfl, ?y46⟩) ?s46 ?_
         case y46 =>
          intro wSW hSW
          (obtain ⟨k0, k1, k2, k3, k4, k5, k6, k7⟩ := keep8 hSW; go_simp)
          all_goals with_reducible rfl
         case s46 => exact HL.out
         try simp only [Act.put, List.setIfInBounds_toArray, List.set_cons_zero, List.set_cons_succ]
         refine AnyT.ready (rs := [25]) (by kernel_rfl) (by simp) (AllT.step rfl (fun K hK => ?b4725) AllT.nil)
         case b4725 =>
          (have hs0 := (blk_cell FZ.out 0).trans rfl; have hs1 := (blk_cell FZ.out 1).trans rfl; have hf0 := blk_frozen FZ.out 0; have hf1 := blk_frozen FZ.out 1; go_simp)
          refine hK.out _ _ ?_ ?_
          ·exact past (by kernel_rfl)
          clear hK K
          try simp only [Act.put, List.setIfInBounds_toArray, List.set_cons_zero, List.set_cons_succ]
          refine AnyT.done (by kernel_rfl) ?_ _
          refine NoPanic.normal ?_
          (go_wp2; go_meet)
          (case rel => exact ⟨gz, .slice A27 6 c27, .slice A35 (l0_7.length + 2) c35, rfl, ⟨PE.of (vN' := .slice none 0 0) (vT' := .slice none 0 0) HL.out HB.out FN.out FT.out FZ.out FG.out⟩⟩)
     case b2219 =>
      (refine Kd.R_lit_step Kd.string (w0 := w) w.heap.size 9 (by rfl) (N := 32) (by rfl) (xs := [a0_4, a0_5]) (inner := [.string a0_4, .string a0_5]) (ok := fun _ => True) (okp := fun _ => True) ?hr (reps_texts _ _ _ [a0_4, a0_5]) (fun _ h => h) trivial HB.out HB.out.size (by simp) ?_; (case hr => first | (go_simp; done) | (go_simp; rfl)); intro vx w9 ho hb hg hat; (try replace FN := Aside0.mk (Kd.R_grown FN.out hg (fun _ _ => by simp))); (try replace FT := Aside0.mk (Kd.R_grown FT.out hg (fun _ _ => by simp))); (try replace FZ := Aside0.mk (blk_grown FZ.out hg (by simp))); replace HL := Aside0.mk (blk_grown HL.out hg (by simp)); replace HB := Aside0.mk hb; obtain ⟨A32, c32, e9⟩ := Kd.R_slice ho; subst e9; have FT := Aside0.mk ho; clear ho hb hg hat)
      refine hK.out _ _ ?_ ?_
      ·intro _; exact HL.out
      clear hK K
      try simp only [Act.put, List.setIfInBounds_toArray, List.set_cons_zero, List.set_cons_succ]
      refine AnyT.ready (rs := [14, 22, 24]) (by kernel_rfl) (by simp) (AllT.step rfl (fun K hK => ?b5114) (AllT.step rfl (fun K hK => ?b5122) (AllT.step rfl (fun K hK => ?b5124) AllT.nil)))
      case b5114 =>
       (refine Kd.R_lit_step (Kd.int .i64) (w0 := w) w.heap.size 3 (by rfl) (N := 27) (by rfl) (xs := [a0_0, a0_1, a0_2, a0_3, (oneI a0_6), (l0_7.length : Int)]) (inner := [.int .i64 a0_0, .int .i64 a0_1, .int .i64 a0_2, .int .i64 a0_3, .int .i64 (oneI a0_6), .int .i64 (l0_7.length : Int)]) (ok := fun _ => True) (okp := fun _ => True) ?hr (reps_ints _ _ _ [a0_0, a0_1, a0_2, a0_3, (oneI a0_6), (l0_7.length : Int)]) (fun _ h => h) trivial HB.out HB.out.size (by simp) ?_; (case hr => first | (go_simp; done) | (go_simp; rfl)); intro vx w9 ho hb hg hat; (try replace FN := Aside0.mk (Kd.R_grown FN.out hg (fun _ _ => by simp))); (try replace FT := Aside0.mk (Kd.R_grown FT.out hg (fun _ _ => by simp))); (try replace FZ := Aside0.mk (blk_grown FZ.out hg (by simp))); replace HL := Aside0.mk (blk_grown HL.out hg (by simp)); replace HB := Aside0.mk hb; obtain ⟨A27, c27, e9⟩ := Kd.R_slice ho; subst e9; have FN := Aside0.mk ho; clear ho hb hg hat)
       refine hK.out _ _ ?_ ?_
       ·intro _; exact HL.out
       clear hK K
       try simp only [Act.put, List.setIfInBounds_toArray, List.set_cons_zero, List.set_cons_succ]
       refine AnyT.ready (rs := [22, 24]) (by kernel_rfl) (by simp) (AllT.step rfl (fun K hK => ?b5322) (AllT.step rfl (fun K hK => ?b5324) AllT.nil))
       case b5322 =>
        (refine Kd.R_append_rows_step Kd.string (w0 := w) w.heap.size (by rfl) (.tmp 32) (.tmp 34) 22 9 (.string ⟨#[]⟩) 16 (by rfl) Try.underlying22 info9 rfl (by decide) (by omega) (.slice A32 2 c32) [a0_4, a0_5] l0_7 _ _ _ (fun _ => True) (fun _ => False) (by rfl) (by rfl) FT.out (Kd.C_below HR7.out HB.out) (fun _ _ h => h) (fun _ h => h.elim) (fun _ _ => trivial) HB.out HB.out.size (by simp only [List.length_cons, List.length_nil]; omega) ?_; intro vx w9 ho hb hg hat; (try replace FN := Aside0.mk (Kd.R_over FN.out FT.out (by decide) hg)); (try replace FZ := Aside0.mk (blk_grown FZ.out hg (Kd.R_ne FT.out FZ.out (by decide)))); replace HL := Aside0.mk (blk_grown HL.out hg (Kd.R_ne FT.out HL.out (by decide))); replace HB := Aside0.mk hb; obtain ⟨A35, c35, e9⟩ := Kd.R_slice ho; subst e9; replace FT := Aside0.mk ho; clear ho hb hg hat)
        refine hK.out _ _ ?_ ?_
        ·intro _; exact HL.out
        clear hK K
        try simp only [Act.put, List.setIfInBounds_toArray, List.set_cons_zero, List.set_cons_succ]
        refine AnyT.taken (i := 23) (v := ?v55) rfl (by kernel_rfl) (by kernel_rfl) (by kernel_rfl) (by kernel_rfl) (fun _ _ _ h => h) (Or.inl ⟨by rfl, ?y55⟩) ?s55 ?_
        case y55 =>
         intro wSW hSW
         (obtain ⟨k0, k1, k2, k3, k4, k5, k6, k7⟩ := keep8 hSW; go_simp)
         all_goals with_reducible rfl
        case s55 => exact HL.out
        try simp only [Act.put, List.setIfInBounds_toArray, List.set_cons_zero, List.set_cons_succ]
        refine AnyT.ready (rs := [24]) (by kernel_rfl) (by simp) (AllT.step rfl (fun K hK => ?b5624) AllT.nil)
        case b5624 =>
         (refine step_alloc (ob := .cells #[.slice none 0 0, .slice none 0 0] 48) (by rfl) ?hr ?_; (case hr => first | (go_simp; done) | (go_simp; rfl)); intro w9 gz hq hge hb; have FG : Aside0 (w.heap.size ≤ gz) := ⟨Nat.le_trans HB.out.size hge⟩; (try replace FN := Aside0.mk (Kd.R_below FN.out hb)); (try replace FT := Aside0.mk (Kd.R_below FT.out hb)); (try replace FZ := Aside0.mk (blk_below FZ.out hb)); replace HL := Aside0.mk (blk_below HL.out hb); replace HB := Aside0.mk (below_step HB.out hb); have FZ := Aside0.mk hq; clear hq hge hb)
         refine hK.out _ _ ?_ ?_
         ·intro _; exact HL.out
         clear hK K
         try simp only [Act.put, List.setIfInBounds_toArray, List.set_cons_zero, List.set_cons_succ]
         refine AnyT.ready (rs := [25]) (by kernel_rfl) (by simp) (AllT.step rfl (fun K hK => ?b5825) AllT.nil)
         case b5825 =>
          (have hs0 := (blk_cell FZ.out 0).trans rfl; have hs1 := (blk_cell FZ.out 1).trans rfl; have hf0 := blk_frozen FZ.out 0; have hf1 := blk_frozen FZ.out 1; go_simp)
          refine hK.out _ _ ?_ ?_
          ·exact past (by kernel_rfl)
          clear hK K
          try simp only [Act.put, List.setIfInBounds_toArray, List.set_cons_zero, List.set_cons_succ]
          refine AnyT.done (by kernel_rfl) ?_ _
          refine NoPanic.normal ?_
          (go_wp2; go_meet)
          (case rel => exact ⟨gz, .slice A27 6 c27, .slice A35 (l0_7.length + 2) c35, rfl, ⟨PE.of (vN' := .slice none 0 0) (vT' := .slice none 0 0) HL.out HB.out FN.out FT.out FZ.out FG.out⟩⟩)
       case b5324 =>
        (refine step_alloc (ob := .cells #[.slice none 0 0, .slice none 0 0] 48) (by rfl) ?hr ?_; (case hr => first | (go_simp; done) | (go_simp; rfl)); intro w9 gz hq hge hb; have FG : Aside0 (w.heap.size ≤ gz) := ⟨Nat.le_trans HB.out.size hge⟩; (try replace FN := Aside0.mk (Kd.R_below FN.out hb)); (try replace FT := Aside0.mk (Kd.R_below FT.out hb)); (try replace FZ := Aside0.mk (blk_below FZ.out hb)); replace HL := Aside0.mk (blk_below HL.out hb); replace HB := Aside0.mk (below_step HB.out hb); have FZ := Aside0.mk hq; clear hq hge hb)
        refine hK.out _ _ ?_ ?_
        ·intro _; exact HL.out
        clear hK K
        try simp only [Act.put, List.setIfInBounds_toArray, List.set_cons_zero, List.set_cons_succ]
        refine AnyT.ready (rs := [22]) (by kernel_rfl) (by simp) (AllT.step rfl (fun K hK => ?b6222) AllT.nil)
        case b6222 =>
         (refine Kd.R_append_rows_step Kd.string (w0 := w) w.heap.size (by rfl) (.tmp 32) (.tmp 34) 22 9 (.string ⟨#[]⟩) 16 (by rfl) Try.underlying22 info9 rfl (by decide) (by omega) (.slice A32 2 c32) [a0_4, a0_5] l0_7 _ _ _ (fun _ => True) (fun _ => False) (by rfl) (by rfl) FT.out (Kd.C_below HR7.out HB.out) (fun _ _ h => h) (fun _ h => h.elim) (fun _ _ => trivial) HB.out HB.out.size (by simp only [List.length_cons, List.length_nil]; omega) ?_; intro vx w9 ho hb hg hat; (try replace FN := Aside0.mk (Kd.R_over FN.out FT.out (by decide) hg)); (try replace FZ := Aside0.mk (blk_grown FZ.out hg (Kd.R_ne FT.out FZ.out (by decide)))); replace HL := Aside0.mk (blk_grown HL.out hg (Kd.R_ne FT.out HL.out (by decide))); replace HB := Aside0.mk hb; obtain ⟨A35, c35, e9⟩ := Kd.R_slice ho; subst e9; replace FT := Aside0.mk ho; clear ho hb hg hat)
         refine hK.out _ _ ?_ ?_
         ·intro _; exact HL.out
         clear hK K
         try simp only [Act.put, List.setIfInBounds_toArray, List.set_cons_zero, List.set_cons_succ]
         refine AnyT.taken (i := 23) (v := ?v64) rfl (by kernel_rfl) (by kernel_rfl) (by kernel_rfl) (by kernel_rfl) (fun _ _ _ h => h) (Or.inl ⟨by rfl, ?y64⟩) ?s64 ?_
         case y64 =>
          intro wSW hSW
          (obtain ⟨k0, k1, k2, k3, k4, k5, k6, k7⟩ := keep8 hSW; go_simp)
          all_goals with_reducible rfl
         case s64 => exact HL.out
         try simp only [Act.put, List.setIfInBounds_toArray, List.set_cons_zero, List.set_cons_succ]
         refine AnyT.ready (rs := [25]) (by kernel_rfl) (by simp) (AllT.step rfl (fun K hK => ?b6525) AllT.nil)
         case b6525 =>
          (have hs0 := (blk_cell FZ.out 0).trans rfl; have hs1 := (blk_cell FZ.out 1).trans rfl; have hf0 := blk_frozen FZ.out 0; have hf1 := blk_frozen FZ.out 1; go_simp)
          refine hK.out _ _ ?_ ?_
          ·exact past (by kernel_rfl)
          clear hK K
          try simp only [Act.put, List.setIfInBounds_toArray, List.set_cons_zero, List.set_cons_succ]
          refine AnyT.done (by kernel_rfl) ?_ _
          refine NoPanic.normal ?_
          (go_wp2; go_meet)
          (case rel => exact ⟨gz, .slice A27 6 c27, .slice A35 (l0_7.length + 2) c35, rfl, ⟨PE.of (vN' := .slice none 0 0) (vT' := .slice none 0 0) HL.out HB.out FN.out FT.out FZ.out FG.out⟩⟩)
      case b5122 =>
       (refine Kd.R_append_rows_step Kd.string (w0 := w) w.heap.size (by rfl) (.tmp 32) (.tmp 34) 22 9 (.string ⟨#[]⟩) 16 (by rfl) Try.underlying22 info9 rfl (by decide) (by omega) (.slice A32 2 c32) [a0_4, a0_5] l0_7 _ _ _ (fun _ => True) (fun _ => False) (by rfl) (by rfl) FT.out (Kd.C_below HR7.out HB.out) (fun _ _ h => h) (fun _ h => h.elim) (fun _ _ => trivial) HB.out HB.out.size (by simp only [List.length_cons, List.length_nil]; omega) ?_; intro vx w9 ho hb hg hat; (try replace FN := Aside0.mk (Kd.R_over FN.out FT.out (by decide) hg)); (try replace FZ := Aside0.mk (blk_grown FZ.out hg (Kd.R_ne FT.out FZ.out (by decide)))); replace HL := Aside0.mk (blk_grown HL.out hg (Kd.R_ne FT.out HL.out (by decide))); replace HB := Aside0.mk hb; obtain ⟨A35, c35, e9⟩ := Kd.R_slice ho; subst e9; replace FT := Aside0.mk ho; clear ho hb hg hat)
       refine hK.out _ _ ?_ ?_
       ·intro _; exact HL.out
       clear hK K
       try simp only [Act.put, List.setIfInBounds_toArray, List.set_cons_zero, List.set_cons_succ]
       refine AnyT.ready (rs := [14, 24]) (by kernel_rfl) (by simp) (AllT.step rfl (fun K hK => ?b6914) (AllT.step rfl (fun K hK => ?b6924) AllT.nil))
       case b6914 =>
        (refine Kd.R_lit_step (Kd.int .i64) (w0 := w) w.heap.size 3 (by rfl) (N := 27) (by rfl) (xs := [a0_0, a0_1, a0_2, a0_3, (oneI a0_6), (l0_7.length : Int)]) (inner := [.int .i64 a0_0, .int .i64 a0_1, .int .i64 a0_2, .int .i64 a0_3, .int .i64 (oneI a0_6), .int .i64 (l0_7.length : Int)]) (ok := fun _ => True) (okp := fun _ => True) ?hr (reps_ints _ _ _ [a0_0, a0_1, a0_2, a0_3, (oneI a0_6), (l0_7.length : Int)]) (fun _ h => h) trivial HB.out HB.out.size (by simp) ?_; (case hr => first | (go_simp; done) | (go_simp; rfl)); intro vx w9 ho hb hg hat; (try replace FN := Aside0.mk (Kd.R_grown FN.out hg (fun _ _ => by simp))); (try replace FT := Aside0.mk (Kd.R_grown FT.out hg (fun _ _ => by simp))); (try replace FZ := Aside0.mk (blk_grown FZ.out hg (by simp))); replace HL := Aside0.mk (blk_grown HL.out hg (by simp)); replace HB := Aside0.mk hb; obtain ⟨A27, c27, e9⟩ := Kd.R_slice ho; subst e9; have FN := Aside0.mk ho; clear ho hb hg hat)
        refine hK.out _ _ ?_ ?_
        ·intro _; exact HL.out
        clear hK K
        try simp only [Act.put, List.setIfInBounds_toArray, List.set_cons_zero, List.set_cons_succ]
        refine AnyT.taken (i := 23) (v := ?v71) rfl (by kernel_rfl) (by kernel_rfl) (by kernel_rfl) (by kernel_rfl) (fun _ _ _ h => h) (Or.inl ⟨by rfl, ?y71⟩) ?s71 ?_
        case y71 =>
         intro wSW hSW
         (obtain ⟨k0, k1, k2, k3, k4, k5, k6, k7⟩ := keep8 hSW; go_simp)
         all_goals with_reducible rfl
        case s71 => exact HL.out
        try simp only [Act.put, List.setIfInBounds_toArray, List.set_cons_zero, List.set_cons_succ]
        refine AnyT.ready (rs := [24]) (by kernel_rfl) (by simp) (AllT.step rfl (fun K hK => ?b7224) AllT.nil)
        case b7224 =>
         (refine step_alloc (ob := .cells #[.slice none 0 0, .slice none 0 0] 48) (by rfl) ?hr ?_; (case hr => first | (go_simp; done) | (go_simp; rfl)); intro w9 gz hq hge hb; have FG : Aside0 (w.heap.size ≤ gz) := ⟨Nat.le_trans HB.out.size hge⟩; (try replace FN := Aside0.mk (Kd.R_below FN.out hb)); (try replace FT := Aside0.mk (Kd.R_below FT.out hb)); (try replace FZ := Aside0.mk (blk_below FZ.out hb)); replace HL := Aside0.mk (blk_below HL.out hb); replace HB := Aside0.mk (below_step HB.out hb); have FZ := Aside0.mk hq; clear hq hge hb)
         refine hK.out _ _ ?_ ?_
         ·intro _; exact HL.out
         clear hK K
         try simp only [Act.put, List.setIfInBounds_toArray, List.set_cons_zero, List.set_cons_succ]
         refine AnyT.ready (rs := [25]) (by kernel_rfl) (by simp) (AllT.step rfl (fun K hK => ?b7425) AllT.nil)
         case b7425 =>
          (have hs0 := (blk_cell FZ.out 0).trans rfl; have hs1 := (blk_cell FZ.out 1).trans rfl; have hf0 := blk_frozen FZ.out 0; have hf1 := blk_frozen FZ.out 1; go_simp)
          refine hK.out _ _ ?_ ?_
          ·exact past (by kernel_rfl)
          clear hK K
          try simp only [Act.put, List.setIfInBounds_toArray, List.set_cons_zero, List.set_cons_succ]
          refine AnyT.done (by kernel_rfl) ?_ _
          refine NoPanic.normal ?_
          (go_wp2; go_meet)
          (case rel => exact ⟨gz, .slice A27 6 c27, .slice A35 (l0_7.length + 2) c35, rfl, ⟨PE.of (vN' := .slice none 0 0) (vT' := .slice none 0 0) HL.out HB.out FN.out FT.out FZ.out FG.out⟩⟩)
       case b6924 =>
        (refine step_alloc (ob := .cells #[.slice none 0 0, .slice none 0 0] 48) (by rfl) ?hr ?_; (case hr => first | (go_simp; done) | (go_simp; rfl)); intro w9 gz hq hge hb; have FG : Aside0 (w.heap.size ≤ gz) := ⟨Nat.le_trans HB.out.size hge⟩; (try replace FN := Aside0.mk (Kd.R_below FN.out hb)); (try replace FT := Aside0.mk (Kd.R_below FT.out hb)); (try replace FZ := Aside0.mk (blk_below FZ.out hb)); replace HL := Aside0.mk (blk_below HL.out hb); replace HB := Aside0.mk (below_step HB.out hb); have FZ := Aside0.mk hq; clear hq hge hb)
        refine hK.out _ _ ?_ ?_
        ·intro _; exact HL.out
        clear hK K
        try simp only [Act.put, List.setIfInBounds_toArray, List.set_cons_zero, List.set_cons_succ]
        refine AnyT.ready (rs := [14]) (by kernel_rfl) (by simp) (AllT.step rfl (fun K hK => ?b7814) AllT.nil)
        case b7814 =>
         (refine Kd.R_lit_step (Kd.int .i64) (w0 := w) w.heap.size 3 (by rfl) (N := 27) (by rfl) (xs := [a0_0, a0_1, a0_2, a0_3, (oneI a0_6), (l0_7.length : Int)]) (inner := [.int .i64 a0_0, .int .i64 a0_1, .int .i64 a0_2, .int .i64 a0_3, .int .i64 (oneI a0_6), .int .i64 (l0_7.length : Int)]) (ok := fun _ => True) (okp := fun _ => True) ?hr (reps_ints _ _ _ [a0_0, a0_1, a0_2, a0_3, (oneI a0_6), (l0_7.length : Int)]) (fun _ h => h) trivial HB.out HB.out.size (by simp) ?_; (case hr => first | (go_simp; done) | (go_simp; rfl)); intro vx w9 ho hb hg hat; (try replace FN := Aside0.mk (Kd.R_grown FN.out hg (fun _ _ => by simp))); (try replace FT := Aside0.mk (Kd.R_grown FT.out hg (fun _ _ => by simp))); (try replace FZ := Aside0.mk (blk_grown FZ.out hg (by simp))); replace HL := Aside0.mk (blk_grown HL.out hg (by simp)); replace HB := Aside0.mk hb; obtain ⟨A27, c27, e9⟩ := Kd.R_slice ho; subst e9; have FN := Aside0.mk ho; clear ho hb hg hat)
         refine hK.out _ _ ?_ ?_
         ·intro _; exact HL.out
         clear hK K
         try simp only [Act.put, List.setIfInBounds_toArray, List.set_cons_zero, List.set_cons_succ]
         refine AnyT.taken (i := 23) (v := ?v80) rfl (by kernel_rfl) (by kernel_rfl) (by kernel_rfl) (by kernel_rfl) (fun _ _ _ h => h) (Or.inl ⟨by rfl, ?y80⟩) ?s80 ?_
         case y80 =>
          intro wSW hSW
          (obtain ⟨k0, k1, k2, k3, k4, k5, k6, k7⟩ := keep8 hSW; go_simp)
          all_goals with_reducible rfl
         case s80 => exact HL.out
         try simp only [Act.put, List.setIfInBounds_toArray, List.set_cons_zero, List.set_cons_succ]
         refine AnyT.ready (rs := [25]) (by kernel_rfl) (by simp) (AllT.step rfl (fun K hK => ?b8125) AllT.nil)
         case b8125 =>
          (have hs0 := (blk_cell FZ.out 0).trans rfl; have hs1 := (blk_cell FZ.out 1).trans rfl; have hf0 := blk_frozen FZ.out 0; have hf1 := blk_frozen FZ.out 1; go_simp)
          refine hK.out _ _ ?_ ?_
          ·exact past (by kernel_rfl)
          clear hK K
          try simp only [Act.put, List.setIfInBounds_toArray, List.set_cons_zero, List.set_cons_succ]
          refine AnyT.done (by kernel_rfl) ?_ _
          refine NoPanic.normal ?_
          (go_wp2; go_meet)
          (case rel => exact ⟨gz, .slice A27 6 c27, .slice A35 (l0_7.length + 2) c35, rfl, ⟨PE.of (vN' := .slice none 0 0) (vT' := .slice none 0 0) HL.out HB.out FN.out FT.out FZ.out FG.out⟩⟩)
      case b5124 =>
       (refine step_alloc (ob := .cells #[.slice none 0 0, .slice none 0 0] 48) (by rfl) ?hr ?_; (case hr => first | (go_simp; done) | (go_simp; rfl)); intro w9 gz hq hge hb; have FG : Aside0 (w.heap.size ≤ gz) := ⟨Nat.le_trans HB.out.size hge⟩; (try replace FN := Aside0.mk (Kd.R_below FN.out hb)); (try replace FT := Aside0.mk (Kd.R_below FT.out hb)); (try replace FZ := Aside0.mk (blk_below FZ.out hb)); replace HL := Aside0.mk (blk_below HL.out hb); replace HB := Aside0.mk (below_step HB.out hb); have FZ := Aside0.mk hq; clear hq hge hb)
       refine hK.out _ _ ?_ ?_
       ·intro _; exact HL.out
       clear hK K
       try simp only [Act.put, List.setIfInBounds_toArray, List.set_cons_zero, List.set_cons_succ]
       refine AnyT.ready (rs := [14, 22]) (by kernel_rfl) (by simp) (AllT.step rfl (fun K hK => ?b8514) (AllT.step rfl (fun K hK => ?b8522) AllT.nil))
       case b8514 =>
        (refine Kd.R_lit_step (Kd.int .i64) (w0 := w) w.heap.size 3 (by rfl) (N := 27) (by rfl) (xs := [a0_0, a0_1, a0_2, a0_3, (oneI a0_6), (l0_7.length : Int)]) (inner := [.int .i64 a0_0, .int .i64 a0_1, .int .i64 a0_2, .int .i64 a0_3, .int .i64 (oneI a0_6), .int .i64 (l0_7.length : Int)]) (ok := fun _ => True) (okp := fun _ => True) ?hr (reps_ints _ _ _ [a0_0, a0_1, a0_2, a0_3, (oneI a0_6), (l0_7.length : Int)]) (fun _ h => h) trivial HB.out HB.out.size (by simp) ?_; (case hr => first | (go_simp; done) | (go_simp; rfl)); intro vx w9 ho hb hg hat; (try replace FN := Aside0.mk (Kd.R_grown FN.out hg (fun _ _ => by simp))); (try replace FT := Aside0.mk (Kd.R_grown FT.out hg (fun _ _ => by simp))); (try replace FZ := Aside0.mk (blk_grown FZ.out hg (by simp))); replace HL := Aside0.mk (blk_grown HL.out hg (by simp)); replace HB := Aside0.mk hb; obtain ⟨A27, c27, e9⟩ := Kd.R_slice ho; subst e9; have FN := Aside0.mk ho; clear ho hb hg hat)
        refine hK.out _ _ ?_ ?_
        ·intro _; exact HL.out
        clear hK K
        try simp only [Act.put, List.setIfInBounds_toArray, List.set_cons_zero, List.set_cons_succ]
        refine AnyT.ready (rs := [22]) (by kernel_rfl) (by simp) (AllT.step rfl (fun K hK => ?b8722) AllT.nil)
        case b8722 =>
         (refine Kd.R_append_rows_step Kd.string (w0 := w) w.heap.size (by rfl) (.tmp 32) (.tmp 34) 22 9 (.string ⟨#[]⟩) 16 (by rfl) Try.underlying22 info9 rfl (by decide) (by omega) (.slice A32 2 c32) [a0_4, a0_5] l0_7 _ _ _ (fun _ => True) (fun _ => False) (by rfl) (by rfl) FT.out (Kd.C_below HR7.out HB.out) (fun _ _ h => h) (fun _ h => h.elim) (fun _ _ => trivial) HB.out HB.out.size (by simp only [List.length_cons, List.length_nil]; omega) ?_; intro vx w9 ho hb hg hat; (try replace FN := Aside0.mk (Kd.R_over FN.out FT.out (by decide) hg)); (try replace FZ := Aside0.mk (blk_grown FZ.out hg (Kd.R_ne FT.out FZ.out (by decide)))); replace HL := Aside0.mk (blk_grown HL.out hg (Kd.R_ne FT.out HL.out (by decide))); replace HB := Aside0.mk hb; obtain ⟨A35, c35, e9⟩ := Kd.R_slice ho; subst e9; replace FT := Aside0.mk ho; clear ho hb hg hat)
         refine hK.out _ _ ?_ ?_
         ·intro _; exact HL.out
         clear hK K
         try simp only [Act.put, List.setIfInBounds_toArray, List.set_cons_zero, List.set_cons_succ]
         refine AnyT.taken (i := 23) (v := ?v89) rfl (by kernel_rfl) (by kernel_rfl) (by kernel_rfl) (by kernel_rfl) (fun _ _ _ h => h) (Or.inl ⟨by rfl, ?y89⟩) ?s89 ?_
         case y89 =>
          intro wSW hSW
          (obtain ⟨k0, k1, k2, k3, k4, k5, k6, k7⟩ := keep8 hSW; go_simp)
          all_goals with_reducible rfl
         case s89 => exact HL.out
         try simp only [Act.put, List.setIfInBounds_toArray, List.set_cons_zero, List.set_cons_succ]
         refine AnyT.ready (rs := [25]) (by kernel_rfl) (by simp) (AllT.step rfl (fun K hK => ?b9025) AllT.nil)
         case b9025 =>
          (have hs0 := (blk_cell FZ.out 0).trans rfl; have hs1 := (blk_cell FZ.out 1).trans rfl; have hf0 := blk_frozen FZ.out 0; have hf1 := blk_frozen FZ.out 1; go_simp)
          refine hK.out _ _ ?_ ?_
          ·exact past (by kernel_rfl)
          clear hK K
          try simp only [Act.put, List.setIfInBounds_toArray, List.set_cons_zero, List.set_cons_succ]
          refine AnyT.done (by kernel_rfl) ?_ _
          refine NoPanic.normal ?_
          (go_wp2; go_meet)
          (case rel => exact ⟨gz, .slice A27 6 c27, .slice A35 (l0_7.length + 2) c35, rfl, ⟨PE.of (vN' := .slice none 0 0) (vT' := .slice none 0 0) HL.out HB.out FN.out FT.out FZ.out FG.out⟩⟩)
       case b8522 =>
        (refine Kd.R_append_rows_step Kd.string (w0 := w) w.heap.size (by rfl) (.tmp 32) (.tmp 34) 22 9 (.string ⟨#[]⟩) 16 (by rfl) Try.underlying22 info9 rfl (by decide) (by omega) (.slice A32 2 c32) [a0_4, a0_5] l0_7 _ _ _ (fun _ => True) (fun _ => False) (by rfl) (by rfl) FT.out (Kd.C_below HR7.out HB.out) (fun _ _ h => h) (fun _ h => h.elim) (fun _ _ => trivial) HB.out HB.out.size (by simp only [List.length_cons, List.length_nil]; omega) ?_; intro vx w9 ho hb hg hat; (try replace FN := Aside0.mk (Kd.R_over FN.out FT.out (by decide) hg)); (try replace FZ := Aside0.mk (blk_grown FZ.out hg (Kd.R_ne FT.out FZ.out (by decide)))); replace HL := Aside0.mk (blk_grown HL.out hg (Kd.R_ne FT.out HL.out (by decide))); replace HB := Aside0.mk hb; obtain ⟨A35, c35, e9⟩ := Kd.R_slice ho; subst e9; replace FT := Aside0.mk ho; clear ho hb hg hat)
        refine hK.out _ _ ?_ ?_
        ·intro _; exact HL.out
        clear hK K
        try simp only [Act.put, List.setIfInBounds_toArray, List.set_cons_zero, List.set_cons_succ]
        refine AnyT.ready (rs := [14]) (by kernel_rfl) (by simp) (AllT.step rfl (fun K hK => ?b9414) AllT.nil)
        case b9414 =>
         (refine Kd.R_lit_step (Kd.int .i64) (w0 := w) w.heap.size 3 (by rfl) (N := 27) (by rfl) (xs := [a0_0, a0_1, a0_2, a0_3, (oneI a0_6), (l0_7.length : Int)]) (inner := [.int .i64 a0_0, .int .i64 a0_1, .int .i64 a0_2, .int .i64 a0_3, .int .i64 (oneI a0_6), .int .i64 (l0_7.length : Int)]) (ok := fun _ => True) (okp := fun _ => True) ?hr (reps_ints _ _ _ [a0_0, a0_1, a0_2, a0_3, (oneI a0_6), (l0_7.length : Int)]) (fun _ h => h) trivial HB.out HB.out.size (by simp) ?_; (case hr => first | (go_simp; done) | (go_simp; rfl)); intro vx w9 ho hb hg hat; (try replace FN := Aside0.mk (Kd.R_grown FN.out hg (fun _ _ => by simp))); (try replace FT := Aside0.mk (Kd.R_grown FT.out hg (fun _ _ => by simp))); (try replace FZ := Aside0.mk (blk_grown FZ.out hg (by simp))); replace HL := Aside0.mk (blk_grown HL.out hg (by simp)); replace HB := Aside0.mk hb; obtain ⟨A27, c27, e9⟩ := Kd.R_slice ho; subst e9; have FN := Aside0.mk ho; clear ho hb hg hat)
         refine hK.out _ _ ?_ ?_
         ·intro _; exact HL.out
         clear hK K
         try simp only [Act.put, List.setIfInBounds_toArray, List.set_cons_zero, List.set_cons_succ]
         refine AnyT.taken (i := 23) (v := ?v96) rfl (by kernel_rfl) (by kernel_rfl) (by kernel_rfl) (by kernel_rfl) (fun _ _ _ h => h) (Or.inl ⟨by rfl, ?y96⟩) ?s96 ?_
         case y96 =>
          intro wSW hSW
          (obtain ⟨k0, k1, k2, k3, k4, k5, k6, k7⟩ := keep8 hSW; go_simp)
          all_goals with_reducible rfl
         case s96 => exact HL.out
         try simp only [Act.put, List.setIfInBounds_toArray, List.set_cons_zero, List.set_cons_succ]
         refine AnyT.ready (rs := [25]) (by kernel_rfl) (by simp) (AllT.step rfl (fun K hK => ?b9725) AllT.nil)
         case b9725 =>
          (have hs0 := (blk_cell FZ.out 0).trans rfl; have hs1 := (blk_cell FZ.out 1).trans rfl; have hf0 := blk_frozen FZ.out 0; have hf1 := blk_frozen FZ.out 1; go_simp)
          refine hK.out _ _ ?_ ?_
          ·exact past (by kernel_rfl)
          clear hK K
          try simp only [Act.put, List.setIfInBounds_toArray, List.set_cons_zero, List.set_cons_succ]
          refine AnyT.done (by kernel_rfl) ?_ _
          refine NoPanic.normal ?_
          (go_wp2; go_meet)
          (case rel => exact ⟨gz, .slice A27 6 c27, .slice A35 (l0_7.length + 2) c35, rfl, ⟨PE.of (vN' := .slice none 0 0) (vT' := .slice none 0 0) HL.out HB.out FN.out FT.out FZ.out FG.out⟩⟩)
     case b2224 =>
      (refine step_alloc (ob := .cells #[.slice none 0 0, .slice none 0 0] 48) (by rfl) ?hr ?_; (case hr => first | (go_simp; done) | (go_simp; rfl)); intro w9 gz hq hge hb; have FG : Aside0 (w.heap.size ≤ gz) := ⟨Nat.le_trans HB.out.size hge⟩; (try replace FN := Aside0.mk (Kd.R_below FN.out hb)); (try replace FT := Aside0.mk (Kd.R_below FT.out hb)); (try replace FZ := Aside0.mk (blk_below FZ.out hb)); replace HL := Aside0.mk (blk_below HL.out hb); replace HB := Aside0.mk (below_step HB.out hb); have FZ := Aside0.mk hq; clear hq hge hb)
      refine hK.out _ _ ?_ ?_
      ·intro _; exact HL.out
      clear hK K
      try simp only [Act.put, List.setIfInBounds_toArray, List.set_cons_zero, List.set_cons_succ]
      refine AnyT.ready (rs := [14, 19]) (by kernel_rfl) (by simp) (AllT.step rfl (fun K hK => ?b10114) (AllT.step rfl (fun K hK => ?b10119) AllT.nil))
      case b10114 =>
       (refine Kd.R_lit_step (Kd.int .i64) (w0 := w) w.heap.size 3 (by rfl) (N := 27) (by rfl) (xs := [a0_0, a0_1, a0_2, a0_3, (oneI a0_6), (l0_7.length : Int)]) (inner := [.int .i64 a0_0, .int .i64 a0_1, .int .i64 a0_2, .int .i64 a0_3, .int .i64 (oneI a0_6), .int .i64 (l0_7.length : Int)]) (ok := fun _ => True) (okp := fun _ => True) ?hr (reps_ints _ _ _ [a0_0, a0_1, a0_2, a0_3, (oneI a0_6), (l0_7.length : Int)]) (fun _ h => h) trivial HB.out HB.out.size (by simp) ?_; (case hr => first | (go_simp; done) | (go_simp; rfl)); intro vx w9 ho hb hg hat; (try replace FN := Aside0.mk (Kd.R_grown FN.out hg (fun _ _ => by simp))); (try replace FT := Aside0.mk (Kd.R_grown FT.out hg (fun _ _ => by simp))); (try replace FZ := Aside0.mk (blk_grown FZ.out hg (by simp))); replace HL := Aside0.mk (blk_grown HL.out hg (by simp)); replace HB := Aside0.mk hb; obtain ⟨A27, c27, e9⟩ := Kd.R_slice ho; subst e9; have FN := Aside0.mk ho; clear ho hb hg hat)
       refine hK.out _ _ ?_ ?_
       ·intro _; exact HL.out
       clear hK K
       try simp only [Act.put, List.setIfInBounds_toArray, List.set_cons_zero, List.set_cons_succ]
       refine AnyT.ready (rs := [19]) (by kernel_rfl) (by simp) (AllT.step rfl (fun K hK => ?b10319) AllT.nil)
       case b10319 =>
        (refine Kd.R_lit_step Kd.string (w0 := w) w.heap.size 9 (by rfl) (N := 32) (by rfl) (xs := [a0_4, a0_5]) (inner := [.string a0_4, .string a0_5]) (ok := fun _ => True) (okp := fun _ => True) ?hr (reps_texts _ _ _ [a0_4, a0_5]) (fun _ h => h) trivial HB.out HB.out.size (by simp) ?_; (case hr => first | (go_simp; done) | (go_simp; rfl)); intro vx w9 ho hb hg hat; (try replace FN := Aside0.mk (Kd.R_grown FN.out hg (fun _ _ => by simp))); (try replace FT := Aside0.mk (Kd.R_grown FT.out hg (fun _ _ => by simp))); (try replace FZ := Aside0.mk (blk_grown FZ.out hg (by simp))); replace HL := Aside0.mk (blk_grown HL.out hg (by simp)); replace HB := Aside0.mk hb; obtain ⟨A32, c32, e9⟩ := Kd.R_slice ho; subst e9; have FT := Aside0.mk ho; clear ho hb hg hat)
        refine hK.out _ _ ?_ ?_
        ·intro _; exact HL.out
        clear hK K
        try simp only [Act.put, List.setIfInBounds_toArray, List.set_cons_zero, List.set_cons_succ]
        refine AnyT.ready (rs := [22]) (by kernel_rfl) (by simp) (AllT.step rfl (fun K hK => ?b10522) AllT.nil)
        case b10522 =>
         (refine Kd.R_append_rows_step Kd.string (w0 := w) w.heap.size (by rfl) (.tmp 32) (.tmp 34) 22 9 (.string ⟨#[]⟩) 16 (by rfl) Try.underlying22 info9 rfl (by decide) (by omega) (.slice A32 2 c32) [a0_4, a0_5] l0_7 _ _ _ (fun _ => True) (fun _ => False) (by rfl) (by rfl) FT.out (Kd.C_below HR7.out HB.out) (fun _ _ h => h) (fun _ h => h.elim) (fun _ _ => trivial) HB.out HB.out.size (by simp only [List.length_cons, List.length_nil]; omega) ?_; intro vx w9 ho hb hg hat; (try replace FN := Aside0.mk (Kd.R_over FN.out FT.out (by decide) hg)); (try replace FZ := Aside0.mk (blk_grown FZ.out hg (Kd.R_ne FT.out FZ.out (by decide)))); replace HL := Aside0.mk (blk_grown HL.out hg (Kd.R_ne FT.out HL.out (by decide))); replace HB := Aside0.mk hb; obtain ⟨A35, c35, e9⟩ := Kd.R_slice ho; subst e9; replace FT := Aside0.mk ho; clear ho hb hg hat)
         refine hK.out _ _ ?_ ?_
         ·intro _; exact HL.out
         clear hK K
         try simp only [Act.put, List.setIfInBounds_toArray, List.set_cons_zero, List.set_cons_succ]
         refine AnyT.taken (i := 23) (v := ?v107) rfl (by kernel_rfl) (by kernel_rfl) (by kernel_rfl) (by kernel_rfl) (fun _ _ _ h => h) (Or.inl ⟨by rfl, ?y107⟩) ?s107 ?_
         case y107 =>
          intro wSW hSW
          (obtain ⟨k0, k1, k2, k3, k4, k5, k6, k7⟩ := keep8 hSW; go_simp)
          all_goals with_reducible rfl
         case s107 => exact HL.out
         try simp only [Act.put, List.setIfInBounds_toArray, List.set_cons_zero, List.set_cons_succ]
         refine AnyT.ready (rs := [25]) (by kernel_rfl) (by simp) (AllT.step rfl (fun K hK => ?b10825) AllT.nil)
         case b10825 =>
          (have hs0 := (blk_cell FZ.out 0).trans rfl; have hs1 := (blk_cell FZ.out 1).trans rfl; have hf0 := blk_frozen FZ.out 0; have hf1 := blk_frozen FZ.out 1; go_simp)
          refine hK.out _ _ ?_ ?_
          ·exact past (by kernel_rfl)
          clear hK K
          try simp only [Act.put, List.setIfInBounds_toArray, List.set_cons_zero, List.set_cons_succ]
          refine AnyT.done (by kernel_rfl) ?_ _
          refine NoPanic.normal ?_
          (go_wp2; go_meet)
          (case rel => exact ⟨gz, .slice A27 6 c27, .slice A35 (l0_7.length + 2) c35, rfl, ⟨PE.of (vN' := .slice none 0 0) (vT' := .slice none 0 0) HL.out HB.out FN.out FT.out FZ.out FG.out⟩⟩)
      case b10119 =>
       (refine Kd.R_lit_step Kd.string (w0 := w) w.heap.size 9 (by rfl) (N := 32) (by rfl) (xs := [a0_4, a0_5]) (inner := [.string a0_4, .string a0_5]) (ok := fun _ => True) (okp := fun _ => True) ?hr (reps_texts _ _ _ [a0_4, a0_5]) (fun _ h => h) trivial HB.out HB.out.size (by simp) ?_; (case hr => first | (go_simp; done) | (go_simp; rfl)); intro vx w9 ho hb hg hat; (try replace FN := Aside0.mk (Kd.R_grown FN.out hg (fun _ _ => by simp))); (try replace FT := Aside0.mk (Kd.R_grown FT.out hg (fun _ _ => by simp))); (try replace FZ := Aside0.mk (blk_grown FZ.out hg (by simp))); replace HL := Aside0.mk (blk_grown HL.out hg (by simp)); replace HB := Aside0.mk hb; obtain ⟨A32, c32, e9⟩ := Kd.R_slice ho; subst e9; have FT := Aside0.mk ho; clear ho hb hg hat)
       refine hK.out _ _ ?_ ?_
       ·intro _; exact HL.out
       clear hK K
       try simp only [Act.put, List.setIfInBounds_toArray, List.set_cons_zero, List.set_cons_succ]
       refine AnyT.ready (rs := [14, 22]) (by kernel_rfl) (by simp) (AllT.step rfl (fun K hK => ?b11214) (AllT.step rfl (fun K hK => ?b11222) AllT.nil))
       case b11214 =>
        (refine Kd.R_lit_step (Kd.int .i64) (w0 := w) w.heap.size 3 (by rfl) (N := 27) (by rfl) (xs := [a0_0, a0_1, a0_2, a0_3, (oneI a0_6), (l0_7.length : Int)]) (inner := [.int .i64 a0_0, .int .i64 a0_1, .int .i64 a0_2, .int .i64 a0_3, .int .i64 (oneI a0_6), .int .i64 (l0_7.length : Int)]) (ok := fun _ => True) (okp := fun _ => True) ?hr (reps_ints _ _ _ [a0_0, a0_1, a0_2, a0_3, (oneI a0_6), (l0_7.length : Int)]) (fun _ h => h) trivial HB.out HB.out.size (by simp) ?_; (case hr => first | (go_simp; done) | (go_simp; rfl)); intro vx w9 ho hb hg hat; (try replace FN := Aside0.mk (Kd.R_grown FN.out hg (fun _ _ => by simp))); (try replace FT := Aside0.mk (Kd.R_grown FT.out hg (fun _ _ => by simp))); (try replace FZ := Aside0.mk (blk_grown FZ.out hg (by simp))); replace HL := Aside0.mk (blk_grown HL.out hg (by simp)); replace HB := Aside0.mk hb; obtain ⟨A27, c27, e9⟩ := Kd.R_slice ho; subst e9; have FN := Aside0.mk ho; clear ho hb hg hat)
        refine hK.out _ _ ?_ ?_
        ·intro _; exact HL.out
        clear hK K
        try simp only [Act.put, List.setIfInBounds_toArray, List.set_cons_zero, List.set_cons_succ]
        refine AnyT.ready (rs := [22]) (by kernel_rfl) (by simp) (AllT.step rfl (fun K hK => ?b11422) AllT.nil)
        case b11422 =>
         (refine Kd.R_append_rows_step Kd.string (w0 := w) w.heap.size (by rfl) (.tmp 32) (.tmp 34) 22 9 (.string ⟨#[]⟩) 16 (by rfl) Try.underlying22 info9 rfl (by decide) (by omega) (.slice A32 2 c32) [a0_4, a0_5] l0_7 _ _ _ (fun _ => True) (fun _ => False) (by rfl) (by rfl) FT.out (Kd.C_below HR7.out HB.out) (fun _ _ h => h) (fun _ h => h.elim) (fun _ _ => trivial) HB.out HB.out.size (by simp only [List.length_cons, List.length_nil]; omega) ?_; intro vx w9 ho hb hg hat; (try replace FN := Aside0.mk (Kd.R_over FN.out FT.out (by decide) hg)); (try replace FZ := Aside0.mk (blk_grown FZ.out hg (Kd.R_ne FT.out FZ.out (by decide)))); replace HL := Aside0.mk (blk_grown HL.out hg (Kd.R_ne FT.out HL.out (by decide))); replace HB := Aside0.mk hb; obtain ⟨A35, c35, e9⟩ := Kd.R_slice ho; subst e9; replace FT := Aside0.mk ho; clear ho hb hg hat)
         refine hK.out _ _ ?_ ?_
         ·intro _; exact HL.out
         clear hK K
         try simp only [Act.put, List.setIfInBounds_toArray, List.set_cons_zero, List.set_cons_succ]
         refine AnyT.taken (i := 23) (v := ?v116) rfl (by kernel_rfl) (by kernel_rfl) (by kernel_rfl) (by kernel_rfl) (fun _ _ _ h => h) (Or.inl ⟨by rfl, ?y116⟩) ?s116 ?_
         case y116 =>
          intro wSW hSW
          (obtain ⟨k0, k1, k2, k3, k4, k5, k6, k7⟩ := keep8 hSW; go_simp)
          all_goals with_reducible rfl
         case s116 => exact HL.out
         try simp only [Act.put, List.setIfInBounds_toArray, List.set_cons_zero, List.set_cons_succ]
         refine AnyT.ready (rs := [25]) (by kernel_rfl) (by simp) (AllT.step rfl (fun K hK => ?b11725) AllT.nil)
         case b11725 =>
          (have hs0 := (blk_cell FZ.out 0).trans rfl; have hs1 := (blk_cell FZ.out 1).trans rfl; have hf0 := blk_frozen FZ.out 0; have hf1 := blk_frozen FZ.out 1; go_simp)
          refine hK.out _ _ ?_ ?_
          ·exact past (by kernel_rfl)
          clear hK K
          try simp only [Act.put, List.setIfInBounds_toArray, List.set_cons_zero, List.set_cons_succ]
          refine AnyT.done (by kernel_rfl) ?_ _
          refine NoPanic.normal ?_
          (go_wp2; go_meet)
          (case rel => exact ⟨gz, .slice A27 6 c27, .slice A35 (l0_7.length + 2) c35, rfl, ⟨PE.of (vN' := .slice none 0 0) (vT' := .slice none 0 0) HL.out HB.out FN.out FT.out FZ.out FG.out⟩⟩)
       case b11222 =>
        (refine Kd.R_append_rows_step Kd.string (w0 := w) w.heap.size (by rfl) (.tmp 32) (.tmp 34) 22 9 (.string ⟨#[]⟩) 16 (by rfl) Try.underlying22 info9 rfl (by decide) (by omega) (.slice A32 2 c32) [a0_4, a0_5] l0_7 _ _ _ (fun _ => True) (fun _ => False) (by rfl) (by rfl) FT.out (Kd.C_below HR7.out HB.out) (fun _ _ h => h) (fun _ h => h.elim) (fun _ _ => trivial) HB.out HB.out.size (by simp only [List.length_cons, List.length_nil]; omega) ?_; intro vx w9 ho hb hg hat; (try replace FN := Aside0.mk (Kd.R_over FN.out FT.out (by decide) hg)); (try replace FZ := Aside0.mk (blk_grown FZ.out hg (Kd.R_ne FT.out FZ.out (by decide)))); replace HL := Aside0.mk (blk_grown HL.out hg (Kd.R_ne FT.out HL.out (by decide))); replace HB := Aside0.mk hb; obtain ⟨A35, c35, e9⟩ := Kd.R_slice ho; subst e9; replace FT := Aside0.mk ho; clear ho hb hg hat)
        refine hK.out _ _ ?_ ?_
        ·intro _; exact HL.out
        clear hK K
        try simp only [Act.put, List.setIfInBounds_toArray, List.set_cons_zero, List.set_cons_succ]
        refine AnyT.ready (rs := [14]) (by kernel_rfl) (by simp) (AllT.step rfl (fun K hK => ?b12114) AllT.nil)
        case b12114 =>
         (refine Kd.R_lit_step (Kd.int .i64) (w0 := w) w.heap.size 3 (by rfl) (N := 27) (by rfl) (xs := [a0_0, a0_1, a0_2, a0_3, (oneI a0_6), (l0_7.length : Int)]) (inner := [.int .i64 a0_0, .int .i64 a0_1, .int .i64 a0_2, .int .i64 a0_3, .int .i64 (oneI a0_6), .int .i64 (l0_7.length : Int)]) (ok := fun _ => True) (okp := fun _ => True) ?hr (reps_ints _ _ _ [a0_0, a0_1, a0_2, a0_3, (oneI a0_6), (l0_7.length : Int)]) (fun _ h => h) trivial HB.out HB.out.size (by simp) ?_; (case hr => first | (go_simp; done) | (go_simp; rfl)); intro vx w9 ho hb hg hat; (try replace FN := Aside0.mk (Kd.R_grown FN.out hg (fun _ _ => by simp))); (try replace FT := Aside0.mk (Kd.R_grown FT.out hg (fun _ _ => by simp))); (try replace FZ := Aside0.mk (blk_grown FZ.out hg (by simp))); replace HL := Aside0.mk (blk_grown HL.out hg (by simp)); replace HB := Aside0.mk hb; obtain ⟨A27, c27, e9⟩ := Kd.R_slice ho; subst e9; have FN := Aside0.mk ho; clear ho hb hg hat)
         refine hK.out _ _ ?_ ?_
         ·intro _; exact HL.out
         clear hK K
         try simp only [Act.put, List.setIfInBounds_toArray, List.set_cons_zero, List.set_cons_succ]
         refine AnyT.taken (i := 23) (v := ?v123) rfl (by kernel_rfl) (by kernel_rfl) (by kernel_rfl) (by kernel_rfl) (fun _ _ _ h => h) (Or.inl ⟨by rfl, ?y123⟩) ?s123 ?_
         case y123 =>
          intro wSW hSW
          (obtain ⟨k0, k1, k2, k3, k4, k5, k6, k7⟩ := keep8 hSW; go_simp)
          all_goals with_reducible rfl
         case s123 => exact HL.out
         try simp only [Act.put, List.setIfInBounds_toArray, List.set_cons_zero, List.set_cons_succ]
         refine AnyT.ready (rs := [25]) (by kernel_rfl) (by simp) (AllT.step rfl (fun K hK => ?b12425) AllT.nil)
         case b12425 =>
          (have hs0 := (blk_cell FZ.out 0).trans rfl; have hs1 := (blk_cell FZ.out 1).trans rfl; have hf0 := blk_frozen FZ.out 0; have hf1 := blk_frozen FZ.out 1; go_simp)
          refine hK.out _ _ ?_ ?_
          ·exact past (by kernel_rfl)
          clear hK K
          try simp only [Act.put, List.setIfInBounds_toArray, List.set_cons_zero, List.set_cons_succ]
          refine AnyT.done (by kernel_rfl) ?_ _
          refine NoPanic.normal ?_
          (go_wp2; go_meet)
          (case rel => exact ⟨gz, .slice A27 6 c27, .slice A35 (l0_7.length + 2) c35, rfl, ⟨PE.of (vN' := .slice none 0 0) (vT' := .slice none 0 0) HL.out HB.out FN.out FT.out FZ.out FG.out⟩⟩)
    case b2019 =>
     (refine Kd.R_lit_step Kd.string (w0 := w) w.heap.size 9 (by rfl) (N := 32) (by rfl) (xs := [a0_4, a0_5]) (inner := [.string a0_4, .string a0_5]) (ok := fun _ => True) (okp := fun _ => True) ?hr (reps_texts _ _ _ [a0_4, a0_5]) (fun _ h => h) trivial HB.out HB.out.size (by simp) ?_; (case hr => first | (go_simp; done) | (go_simp; rfl)); intro vx w9 ho hb hg hat; (try replace FN := Aside0.mk (Kd.R_grown FN.out hg (fun _ _ => by simp))); (try replace FT := Aside0.mk (Kd.R_grown FT.out hg (fun _ _ => by simp))); (try replace FZ := Aside0.mk (blk_grown FZ.out hg (by simp))); replace HL := Aside0.mk (blk_grown HL.out hg (by simp)); replace HB := Aside0.mk hb; obtain ⟨A32, c32, e9⟩ := Kd.R_slice ho; subst e9; have FT := Aside0.mk ho; clear ho hb hg hat)
     refine hK.out _ _ ?_ ?_
     ·intro _; exact HL.out
     clear hK K
     try simp only [Act.put, List.setIfInBounds_toArray, List.set_cons_zero, List.set_cons_succ]
     refine AnyT.ready (rs := [10, 24]) (by kernel_rfl) (by simp) (AllT.step rfl (fun K hK => ?b12810) (AllT.step rfl (fun K hK => ?b12824) AllT.nil))
     case b12810 =>
      (refine goes_ Try.func20 (by kernel_rfl) rfl #[.bool a0_6] (by rfl) rfl rfl (by (try simp only [List.map_toArray, List.map_cons, List.map_nil]); first | done | rfl) ?_; refine (one_calls a0_6 _).mono ?_; rintro e w9 ⟨rfl, hb⟩; refine ⟨_, rfl, ?_⟩; (try replace FN := Aside0.mk (Kd.R_below FN.out hb)); (try replace FT := Aside0.mk (Kd.R_below FT.out hb)); (try replace FZ := Aside0.mk (blk_below FZ.out hb)); replace HL := Aside0.mk (blk_below HL.out hb); replace HB := Aside0.mk (below_step HB.out hb); clear hb)
      refine hK.out _ _ ?_ ?_
      ·intro _; exact HL.out
      clear hK K
      try simp only [Act.put, List.setIfInBounds_toArray, List.set_cons_zero, List.set_cons_succ]
      refine AnyT.ready (rs := [14, 22, 24]) (by kernel_rfl) (by simp) (AllT.step rfl (fun K hK => ?b13014) (AllT.step rfl (fun K hK => ?b13022) (AllT.step rfl (fun K hK => ?b13024) AllT.nil)))
      case b13014 =>
       (refine Kd.R_lit_step (Kd.int .i64) (w0 := w) w.heap.size 3 (by rfl) (N := 27) (by rfl) (xs := [a0_0, a0_1, a0_2, a0_3, (oneI a0_6), (l0_7.length : Int)]) (inner := [.int .i64 a0_0, .int .i64 a0_1, .int .i64 a0_2, .int .i64 a0_3, .int .i64 (oneI a0_6), .int .i64 (l0_7.length : Int)]) (ok := fun _ => True) (okp := fun _ => True) ?hr (reps_ints _ _ _ [a0_0, a0_1, a0_2, a0_3, (oneI a0_6), (l0_7.length : Int)]) (fun _ h => h) trivial HB.out HB.out.size (by simp) ?_; (case hr => first | (go_simp; done) | (go_simp; rfl)); intro vx w9 ho hb hg hat; (try replace FN := Aside0.mk (Kd.R_grown FN.out hg (fun _ _ => by simp))); (try replace FT := Aside0.mk (Kd.R_grown FT.out hg (fun _ _ => by simp))); (try replace FZ := Aside0.mk (blk_grown FZ.out hg (by simp))); replace HL := Aside0.mk (blk_grown HL.out hg (by simp)); replace HB := Aside0.mk hb; obtain ⟨A27, c27, e9⟩ := Kd.R_slice ho; subst e9; have FN := Aside0.mk ho; clear ho hb hg hat)
       refine hK.out _ _ ?_ ?_
       ·intro _; exact HL.out
       clear hK K
       try simp only [Act.put, List.setIfInBounds_toArray, List.set_cons_zero, List.set_cons_succ]
       refine AnyT.ready (rs := [22, 24]) (by kernel_rfl) (by simp) (AllT.step rfl (fun K hK => ?b13222) (AllT.step rfl (fun K hK => ?b13224) AllT.nil))
       case b13222 =>
        (refine Kd.R_append_rows_step Kd.string (w0 := w) w.heap.size (by rfl) (.tmp 32) (.tmp 34) 22 9 (.string ⟨#[]⟩) 16 (by rfl) Try.underlying22 info9 rfl (by decide) (by omega) (.slice A32 2 c32) [a0_4, a0_5] l0_7 _ _ _ (fun _ => True) (fun _ => False) (by rfl) (by rfl) FT.out (Kd.C_below HR7.out HB.out) (fun _ _ h => h) (fun _ h => h.elim) (fun _ _ => trivial) HB.out HB.out.size (by simp only [List.length_cons, List.length_nil]; omega) ?_; intro vx w9 ho hb hg hat; (try replace FN := Aside0.mk (Kd.R_over FN.out FT.out (by decide) hg)); (try replace FZ := Aside0.mk (blk_grown FZ.out hg (Kd.R_ne FT.out FZ.out (by decide)))); replace HL := Aside0.mk (blk_grown HL.out hg (Kd.R_ne FT.out HL.out (by decide))); replace HB := Aside0.mk hb; obtain ⟨A35, c35, e9⟩ := Kd.R_slice ho; subst e9; replace FT := Aside0.mk ho; clear ho hb hg hat)
        refine hK.out _ _ ?_ ?_
        ·intro _; exact HL.out
        clear hK K
        try simp only [Act.put, List.setIfInBounds_toArray, List.set_cons_zero, List.set_cons_succ]
        refine AnyT.taken (i := 23) (v := ?v134) rfl (by kernel_rfl) (by kernel_rfl) (by kernel_rfl) (by kernel_rfl) (fun _ _ _ h => h) (Or.inl ⟨by rfl, ?y134⟩) ?s134 ?_
        case y134 =>
         intro wSW hSW
         (obtain ⟨k0, k1, k2, k3, k4, k5, k6, k7⟩ := keep8 hSW; go_simp)
         all_goals with_reducible rfl
        case s134 => exact HL.out
        try simp only [Act.put, List.setIfInBounds_toArray, List.set_cons_zero, List.set_cons_succ]
        refine AnyT.ready (rs := [24]) (by kernel_rfl) (by simp) (AllT.step rfl (fun K hK => ?b13524) AllT.nil)
        case b13524 =>
         (refine step_alloc (ob := .cells #[.slice none 0 0, .slice none 0 0] 48) (by rfl) ?hr ?_; (case hr => first | (go_simp; done) | (go_simp; rfl)); intro w9 gz hq hge hb; have FG : Aside0 (w.heap.size ≤ gz) := ⟨Nat.le_trans HB.out.size hge⟩; (try replace FN := Aside0.mk (Kd.R_below FN.out hb)); (try replace FT := Aside0.mk (Kd.R_below FT.out hb)); (try replace FZ := Aside0.mk (blk_below FZ.out hb)); replace HL := Aside0.mk (blk_below HL.out hb); replace HB := Aside0.mk (below_step HB.out hb); have FZ := Aside0.mk hq; clear hq hge hb)
         refine hK.out _ _ ?_ ?_
         ·intro _; exact HL.out
         clear hK K
         try simp only [Act.put, List.setIfInBounds_toArray, List.set_cons_zero, List.set_cons_succ]
         refine AnyT.ready (rs := [25]) (by kernel_rfl) (by simp) (AllT.step rfl (fun K hK => ?b13725) AllT.nil)
         case b13725 =>
          (have hs0 := (blk_cell FZ.out 0).trans rfl; have hs1 := (blk_cell FZ.out 1).trans rfl; have hf0 := blk_frozen FZ.out 0; have hf1 := blk_frozen FZ.out 1; go_simp)
          refine hK.out _ _ ?_ ?_
          ·exact past (by kernel_rfl)
          clear hK K
          try simp only [Act.put, List.setIfInBounds_toArray, List.set_cons_zero, List.set_cons_succ]
          refine AnyT.done (by kernel_rfl) ?_ _
          refine NoPanic.normal ?_
          (go_wp2; go_meet)
          (case rel => exact ⟨gz, .slice A27 6 c27, .slice A35 (l0_7.length + 2) c35, rfl, ⟨PE.of (vN' := .slice none 0 0) (vT' := .slice none 0 0) HL.out HB.out FN.out FT.out FZ.out FG.out⟩⟩)
       case b13224 =>
        (refine step_alloc (ob := .cells #[.slice none 0 0, .slice none 0 0] 48) (by rfl) ?hr ?_; (case hr => first | (go_simp; done) | (go_simp; rfl)); intro w9 gz hq hge hb; have FG : Aside0 (w.heap.size ≤ gz) := ⟨Nat.le_trans HB.out.size hge⟩; (try replace FN := Aside0.mk (Kd.R_below FN.out hb)); (try replace FT := Aside0.mk (Kd.R_below FT.out hb)); (try replace FZ := Aside0.mk (blk_below FZ.out hb)); replace HL := Aside0.mk (blk_below HL.out hb); replace HB := Aside0.mk (below_step HB.out hb); have FZ := Aside0.mk hq; clear hq hge hb)
        refine hK.out _ _ ?_ ?_
        ·intro _; exact HL.out
        clear hK K
        try simp only [Act.put, List.setIfInBounds_toArray, List.set_cons_zero, List.set_cons_succ]
        refine AnyT.ready (rs := [22]) (by kernel_rfl) (by simp) (AllT.step rfl (fun K hK => ?b14122) AllT.nil)
        case b14122 =>
         (refine Kd.R_append_rows_step Kd.string (w0 := w) w.heap.size (by rfl) (.tmp 32) (.tmp 34) 22 9 (.string ⟨#[]⟩) 16 (by rfl) Try.underlying22 info9 rfl (by decide) (by omega) (.slice A32 2 c32) [a0_4, a0_5] l0_7 _ _ _ (fun _ => True) (fun _ => False) (by rfl) (by rfl) FT.out (Kd.C_below HR7.out HB.out) (fun _ _ h => h) (fun _ h => h.elim) (fun _ _ => trivial) HB.out HB.out.size (by simp only [List.length_cons, List.length_nil]; omega) ?_; intro vx w9 ho hb hg hat; (try replace FN := Aside0.mk (Kd.R_over FN.out FT.out (by decide) hg)); (try replace FZ := Aside0.mk (blk_grown FZ.out hg (Kd.R_ne FT.out FZ.out (by decide)))); replace HL := Aside0.mk (blk_grown HL.out hg (Kd.R_ne FT.out HL.out (by decide))); replace HB := Aside0.mk hb; obtain ⟨A35, c35, e9⟩ := Kd.R_slice ho; subst e9; replace FT := Aside0.mk ho; clear ho hb hg hat)
         refine hK.out _ _ ?_ ?_
         ·intro _; exact HL.out
         clear hK K
         try simp only [Act.put, List.setIfInBounds_toArray, List.set_cons_zero, List.set_cons_succ]
         refine AnyT.taken (i := 23) (v := ?v143) rfl (by kernel_rfl) (by kernel_rfl) (by kernel_rfl) (by kernel_rfl) (fun _ _ _ h => h) (Or.inl ⟨by rfl, ?y143⟩) ?s143 ?_
         case y143 =>
          intro wSW hSW
          (obtain ⟨k0, k1, k2, k3, k4, k5, k6, k7⟩ := keep8 hSW; go_simp)
          all_goals with_reducible rfl
         case s143 => exact HL.out
         try simp only [Act.put, List.setIfInBounds_toArray, List.set_cons_zero, List.set_cons_succ]
         refine AnyT.ready (rs := [25]) (by kernel_rfl) (by simp) (AllT.step rfl (fun K hK => ?b14425) AllT.nil)
         case b14425 =>
          (have hs0 := (blk_cell FZ.out 0).trans rfl; have hs1 := (blk_cell FZ.out 1).trans rfl; have hf0 := blk_frozen FZ.out 0; have hf1 := blk_frozen FZ.out 1; go_simp)
          refine hK.out _ _ ?_ ?_
          ·exact past (by kernel_rfl)
          clear hK K
          try simp only [Act.put, List.setIfInBounds_toArray, List.set_cons_zero, List.set_cons_succ]
          refine AnyT.done (by kernel_rfl) ?_ _
          refine NoPanic.normal ?_
          (go_wp2; go_meet)
          (case rel => exact ⟨gz, .slice A27 6 c27, .slice A35 (l0_7.length + 2) c35, rfl, ⟨PE.of (vN' := .slice none 0 0) (vT' := .slice none 0 0) HL.out HB.out FN.out FT.out FZ.out FG.out⟩⟩)
      case b13022 =>
       (refine Kd.R_append_rows_step Kd.string (w0 := w) w.heap.size (by rfl) (.tmp 32) (.tmp 34) 22 9 (.string ⟨#[]⟩) 16 (by rfl) Try.underlying22 info9 rfl (by decide) (by omega) (.slice A32 2 c32) [a0_4, a0_5] l0_7 _ _ _ (fun _ => True) (fun _ => False) (by rfl) (by rfl) FT.out (Kd.C_below HR7.out HB.out) (fun _ _ h => h) (fun _ h => h.elim) (fun _ _ => trivial) HB.out HB.out.size (by simp only [List.length_cons, List.length_nil]; omega) ?_; intro vx w9 ho hb hg hat; (try replace FN := Aside0.mk (Kd.R_over FN.out FT.out (by decide) hg)); (try replace FZ := Aside0.mk (blk_grown FZ.out hg (Kd.R_ne FT.out FZ.out (by decide)))); replace HL := Aside0.mk (blk_grown HL.out hg (Kd.R_ne FT.out HL.out (by decide))); replace HB := Aside0.mk hb; obtain ⟨A35, c35, e9⟩ := Kd.R_slice ho; subst e9; replace FT := Aside0.mk ho; clear ho hb hg hat)
       refine hK.out _ _ ?_ ?_
       ·intro _; exact HL.out
       clear hK K
       try simp only [Act.put, List.setIfInBounds_toArray, List.set_cons_zero, List.set_cons_succ]
       refine AnyT.ready (rs := [14, 24]) (by kernel_rfl) (by simp) (AllT.step rfl (fun K hK => ?b14814) (AllT.step rfl (fun K hK => ?b14824) AllT.nil))
       case b14814 =>
        (refine Kd.R_lit_step (Kd.int .i64) (w0 := w) w.heap.size 3 (by rfl) (N := 27) (by rfl) (xs := [a0_0, a0_1, a0_2, a0_3, (oneI a0_6), (l0_7.length : Int)]) (inner := [.int .i64 a0_0, .int .i64 a0_1, .int .i64 a0_2, .int .i64 a0_3, .int .i64 (oneI a0_6), .int .i64 (l0_7.length : Int)]) (ok := fun _ => True) (okp := fun _ => True) ?hr (reps_ints _ _ _ [a0_0, a0_1, a0_2, a0_3, (oneI a0_6), (l0_7.length : Int)]) (fun _ h => h) trivial HB.out HB.out.size (by simp) ?_; (case hr => first | (go_simp; done) | (go_simp; rfl)); intro vx w9 ho hb hg hat; (try replace FN := Aside0.mk (Kd.R_grown FN.out hg (fun _ _ => by simp))); (try replace FT := Aside0.mk (Kd.R_grown FT.out hg (fun _ _ => by simp))); (try replace FZ := Aside0.mk (blk_grown FZ.out hg (by simp))); replace HL := Aside0.mk (blk_grown HL.out hg (by simp)); replace HB := Aside0.mk hb; obtain ⟨A27, c27, e9⟩ := Kd.R_slice ho; subst e9; have FN := Aside0.mk ho; clear ho hb hg hat)
        refine hK.out _ _ ?_ ?_
        ·intro _; exact HL.out
        clear hK K
        try simp only [Act.put, List.setIfInBounds_toArray, List.set_cons_zero, List.set_cons_succ]
        refine AnyT.taken (i := 23) (v := ?v150) rfl (by kernel_rfl) (by kernel_rfl) (by kernel_rfl) (by kernel_rfl) (fun _ _ _ h => h) (Or.inl ⟨by rfl, ?y150⟩) ?s150 ?_
        case y150 =>
         intro wSW hSW
         (obtain ⟨k0, k1, k2, k3, k4, k5, k6, k7⟩ := keep8 hSW; go_simp)
         all_goals with_reducible rfl
        case s150 => exact HL.out
        try simp only [Act.put, List.setIfInBounds_toArray, List.set_cons_zero, List.set_cons_succ]
        refine AnyT.ready (rs := [24]) (by kernel_rfl) (by simp) (AllT.step rfl (fun K hK => ?b15124) AllT.nil)
        case b15124 =>
         (refine step_alloc (ob := .cells #[.slice none 0 0, .slice none 0 0] 48) (by rfl) ?hr ?_; (case hr => first | (go_simp; done) | (go_simp; rfl)); intro w9 gz hq hge hb; have FG : Aside0 (w.heap.size ≤ gz) := ⟨Nat.le_trans HB.out.size hge⟩; (try replace FN := Aside0.mk (Kd.R_below FN.out hb)); (try replace FT := Aside0.mk (Kd.R_below FT.out hb)); (try replace FZ := Aside0.mk (blk_below FZ.out hb)); replace HL := Aside0.mk (blk_below HL.out hb); replace HB := Aside0.mk (below_step HB.out hb); have FZ := Aside0.mk hq; clear hq hge hb)
         refine hK.out _ _ ?_ ?_
         ·intro _; exact HL.out
         clear hK K
         try simp only [Act.put, List.setIfInBounds_toArray, List.set_cons_zero, List.set_cons_succ]
         refine AnyT.ready (rs := [25]) (by kernel_rfl) (by simp) (AllT.step rfl (fun K hK => ?b15325) AllT.nil)
         case b15325 =>
          (have hs0 := (blk_cell FZ.out 0).trans rfl; have hs1 := (blk_cell FZ.out 1).trans rfl; have hf0 := blk_frozen FZ.out 0; have hf1 := blk_frozen FZ.out 1; go_simp)
          refine hK.out _ _ ?_ ?_
          ·exact past (by kernel_rfl)
          clear hK K
          try simp only [Act.put, List.setIfInBounds_toArray, List.set_cons_zero, List.set_cons_succ]
          refine AnyT.done (by kernel_rfl) ?_ _
          refine NoPanic.normal ?_
          (go_wp2; go_meet)
          (case rel => exact ⟨gz, .slice A27 6 c27, .slice A35 (l0_7.length + 2) c35, rfl, ⟨PE.of (vN' := .slice none 0 0) (vT' := .slice none 0 0) HL.out HB.out FN.out FT.out FZ.out FG.out⟩⟩)
       case b14824 =>
        (refine step_alloc (ob := .cells #[.slice none 0 0, .slice none 0 0] 48) (by rfl) ?hr ?_; (case hr => first | (go_simp; done) | (go_simp; rfl)); intro w9 gz hq hge hb; have FG : Aside0 (w.heap.size ≤ gz) := ⟨Nat.le_trans HB.out.size hge⟩; (try replace FN := Aside0.mk (Kd.R_below FN.out hb)); (try replace FT := Aside0.mk (Kd.R_below FT.out hb)); (try replace FZ := Aside0.mk (blk_below FZ.out hb)); replace HL := Aside0.mk (blk_below HL.out hb); replace HB := Aside0.mk (below_step HB.out hb); have FZ := Aside0.mk hq; clear hq hge hb)
        refine hK.out _ _ ?_ ?_
        ·intro _; exact HL.out
        clear hK K
        try simp only [Act.put, List.setIfInBounds_toArray, List.set_cons_zero, List.set_cons_succ]
        refine AnyT.ready (rs := [14]) (by kernel_rfl) (by simp) (AllT.step rfl (fun K hK => ?b15714) AllT.nil)
        case b15714 =>
         (refine Kd.R_lit_step (Kd.int .i64) (w0 := w) w.heap.size 3 (by rfl) (N := 27) (by rfl) (xs := [a0_0, a0_1, a0_2, a0_3, (oneI a0_6), (l0_7.length : Int)]) (inner := [.int .i64 a0_0, .int .i64 a0_1, .int .i64 a0_2, .int .i64 a0_3, .int .i64 (oneI a0_6), .int .i64 (l0_7.length : Int)]) (ok := fun _ => True) (okp := fun _ => True) ?hr (reps_ints _ _ _ [a0_0, a0_1, a0_2, a0_3, (oneI a0_6), (l0_7.length : Int)]) (fun _ h => h) trivial HB.out HB.out.size (by simp) ?_; (case hr => first | (go_simp; done) | (go_simp; rfl)); intro vx w9 ho hb hg hat; (try replace FN := Aside0.mk (Kd.R_grown FN.out hg (fun _ _ => by simp))); (try replace FT := Aside0.mk (Kd.R_grown FT.out hg (fun _ _ => by simp))); (try replace FZ := Aside0.mk (blk_grown FZ.out hg (by simp))); replace HL := Aside0.mk (blk_grown HL.out hg (by simp)); replace HB := Aside0.mk hb; obtain ⟨A27, c27, e9⟩ := Kd.R_slice ho; subst e9; have FN := Aside0.mk ho; clear ho hb hg hat)
         refine hK.out _ _ ?_ ?_
         ·intro _; exact HL.out
         clear hK K
         try simp only [Act.put, List.setIfInBounds_toArray, List.set_cons_zero, List.set_cons_succ]
         refine AnyT.taken (i := 23) (v := ?v159) rfl (by kernel_rfl) (by kernel_rfl) (by kernel_rfl) (by kernel_rfl) (fun _ _ _ h => h) (Or.inl ⟨by rfl, ?y159⟩) ?s159 ?_
         case y159 =>
          intro wSW hSW
          (obtain ⟨k0, k1, k2, k3, k4, k5, k6, k7⟩ := keep8 hSW; go_simp)
          all_goals with_reducible rfl
         case s159 => exact HL.out
         try simp only [Act.put, List.setIfInBounds_toArray, List.set_cons_zero, List.set_cons_succ]
         refine AnyT.ready (rs := [25]) (by kernel_rfl) (by simp) (AllT.step rfl (fun K hK => ?b16025) AllT.nil)
         case b16025 =>
          (have hs0 := (blk_cell FZ.out 0).trans rfl; have hs1 := (blk_cell FZ.out 1).trans rfl; have hf0 := blk_frozen FZ.out 0; have hf1 := blk_frozen FZ.out 1; go_simp)
          refine hK.out _ _ ?_ ?_
          ·exact past (by kernel_rfl)
          clear hK K
          try simp only [Act.put, List.setIfInBounds_toArray, List.set_cons_zero, List.set_cons_succ]
          refine AnyT.done (by kernel_rfl) ?_ _
          refine NoPanic.normal ?_
          (go_wp2; go_meet)
          (case rel => exact ⟨gz, .slice A27 6 c27, .slice A35 (l0_7.length + 2) c35, rfl, ⟨PE.of (vN' := .slice none 0 0) (vT' := .slice none 0 0) HL.out HB.out FN.out FT.out FZ.out FG.out⟩⟩)
      case b13024 =>
       (refine step_alloc (ob := .cells #[.slice none 0 0, .slice none 0 0] 48) (by rfl) ?hr ?_; (case hr => first | (go_simp; done) | (go_simp; rfl)); intro w9 gz hq hge hb; have FG : Aside0 (w.heap.size ≤ gz) := ⟨Nat.le_trans HB.out.size hge⟩; (try replace FN := Aside0.mk (Kd.R_below FN.out hb)); (try replace FT := Aside0.mk (Kd.R_below FT.out hb)); (try replace FZ := Aside0.mk (blk_below FZ.out hb)); replace HL := Aside0.mk (blk_below HL.out hb); replace HB := Aside0.mk (below_step HB.out hb); have FZ := Aside0.mk hq; clear hq hge hb)
       refine hK.out _ _ ?_ ?_
       ·intro _; exact HL.out
       clear hK K
       try simp only [Act.put, List.setIfInBounds_toArray, List.set_cons_zero, List.set_cons_succ]
       refine AnyT.ready (rs := [14, 22]) (by kernel_rfl) (by simp) (AllT.step rfl (fun K hK => ?b16414) (AllT.step rfl (fun K hK => ?b16422) AllT.nil))
       case b16414 =>
        (refine Kd.R_lit_step (Kd.int .i64) (w0 := w) w.heap.size 3 (by rfl) (N := 27) (by rfl) (xs := [a0_0, a0_1, a0_2, a0_3, (oneI a0_6), (l0_7.length : Int)]) (inner := [.int .i64 a0_0, .int .i64 a0_1, .int .i64 a0_2, .int .i64 a0_3, .int .i64 (oneI a0_6), .int .i64 (l0_7.length : Int)]) (ok := fun _ => True) (okp := fun _ => True) ?hr (reps_ints _ _ _ [a0_0, a0_1, a0_2, a0_3, (oneI a0_6), (l0_7.length : Int)]) (fun _ h => h) trivial HB.out HB.out.size (by simp) ?_; (case hr => first | (go_simp; done) | (go_simp; rfl)); intro vx w9 ho hb hg hat; (try replace FN := Aside0.mk (Kd.R_grown FN.out hg (fun _ _ => by simp))); (try replace FT := Aside0.mk (Kd.R_grown FT.out hg (fun _ _ => by simp))); (try replace FZ := Aside0.mk (blk_grown FZ.out hg (by simp))); replace HL := Aside0.mk (blk_grown HL.out hg (by simp)); replace HB := Aside0.mk hb; obtain ⟨A27, c27, e9⟩ := Kd.R_slice ho; subst e9; have FN := Aside0.mk ho; clear ho hb hg hat)
        refine hK.out _ _ ?_ ?_
        ·intro _; exact HL.out
        clear hK K
        try simp only [Act.put, List.setIfInBounds_toArray, List.set_cons_zero, List.set_cons_succ]
        refine AnyT.ready (rs := [22]) (by kernel_rfl) (by simp) (AllT.step rfl (fun K hK => ?b16622) AllT.nil)
        case b16622 =>
         (refine Kd.R_append_rows_step Kd.string (w0 := w) w.heap.size (by rfl) (.tmp 32) (.tmp 34) 22 9 (.string ⟨#[]⟩) 16 (by rfl) Try.underlying22 info9 rfl (by decide) (by omega) (.slice A32 2 c32) [a0_4, a0_5] l0_7 _ _ _ (fun _ => True) (fun _ => False) (by rfl) (by rfl) FT.out (Kd.C_below HR7.out HB.out) (fun _ _ h => h) (fun _ h => h.elim) (fun _ _ => trivial) HB.out HB.out.size (by simp only [List.length_cons, List.length_nil]; omega) ?_; intro vx w9 ho hb hg hat; (try replace FN := Aside0.mk (Kd.R_over FN.out FT.out (by decide) hg)); (try replace FZ := Aside0.mk (blk_grown FZ.out hg (Kd.R_ne FT.out FZ.out (by decide)))); replace HL := Aside0.mk (blk_grown HL.out hg (Kd.R_ne FT.out HL.out (by decide))); replace HB := Aside0.mk hb; obtain ⟨A35, c35, e9⟩ := Kd.R_slice ho; subst e9; replace FT := Aside0.mk ho; clear ho hb hg hat)
         refine hK.out _ _ ?_ ?_
         ·intro _; exact HL.out
         clear hK K
         try simp only [Act.put, List.setIfInBounds_toArray, List.set_cons_zero, List.set_cons_succ]
         refine AnyT.taken (i := 23) (v := ?v168) rfl (by kernel_rfl) (by kernel_rfl) (by kernel_rfl) (by kernel_rfl) (fun _ _ _ h => h) (Or.inl ⟨by rfl, ?y168⟩) ?s168 ?_
         case y168 =>
          intro wSW hSW
          (obtain ⟨k0, k1, k2, k3, k4, k5, k6, k7⟩ := keep8 hSW; go_simp)
          all_goals with_reducible rfl
         case s168 => exact HL.out
         try simp only [Act.put, List.setIfInBounds_toArray, List.set_cons_zero, List.set_cons_succ]
         refine AnyT.ready (rs := [25]) (by kernel_rfl) (by simp) (AllT.step rfl (fun K hK => ?b16925) AllT.nil)
         case b16925 =>
          (have hs0 := (blk_cell FZ.out 0).trans rfl; have hs1 := (blk_cell FZ.out 1).trans rfl; have hf0 := blk_frozen FZ.out 0; have hf1 := blk_frozen FZ.out 1; go_simp)
          refine hK.out _ _ ?_ ?_
          ·exact past (by kernel_rfl)
          clear hK K
          try simp only [Act.put, List.setIfInBounds_toArray, List.set_cons_zero, List.set_cons_succ]
          refine AnyT.done (by kernel_rfl) ?_ _
          refine NoPanic.normal ?_
          (go_wp2; go_meet)
          (case rel => exact ⟨gz, .slice A27 6 c27, .slice A35 (l0_7.length + 2) c35, rfl, ⟨PE.of (vN' := .slice none 0 0) (vT' := .slice none 0 0) HL.out HB.out FN.out FT.out FZ.out FG.out⟩⟩)
       case b16422 =>
        (refine Kd.R_append_rows_step Kd.string (w0 := w) w.heap.size (by rfl) (.tmp 32) (.tmp 34) 22 9 (.string ⟨#[]⟩) 16 (by rfl) Try.underlying22 info9 rfl (by decide) (by omega) (.slice A32 2 c32) [a0_4, a0_5] l0_7 _ _ _ (fun _ => True) (fun _ => False) (by rfl) (by rfl) FT.out (Kd.C_below HR7.out HB.out) (fun _ _ h => h) (fun _ h => h.elim) (fun _ _ => trivial) HB.out HB.out.size (by simp only [List.length_cons, List.length_nil]; omega) ?_; intro vx w9 ho hb hg hat; (try replace FN := Aside0.mk (Kd.R_over FN.out FT.out (by decide) hg)); (try replace FZ := Aside0.mk (blk_grown FZ.out hg (Kd.R_ne FT.out FZ.out (by decide)))); replace HL := Aside0.mk (blk_grown HL.out hg (Kd.R_ne FT.out HL.out (by decide))); replace HB := Aside0.mk hb; obtain ⟨A35, c35, e9⟩ := Kd.R_slice ho; subst e9; replace FT := Aside0.mk ho; clear ho hb hg hat)
        refine hK.out _ _ ?_ ?_
        ·intro _; exact HL.out
        clear hK K
        try simp only [Act.put, List.setIfInBounds_toArray, List.set_cons_zero, List.set_cons_succ]
        refine AnyT.ready (rs := [14]) (by kernel_rfl) (by simp) (AllT.step rfl (fun K hK => ?b17314) AllT.nil)
        case b17314 =>
         (refine Kd.R_lit_step (Kd.int .i64) (w0 := w) w.heap.size 3 (by rfl) (N := 27) (by rfl) (xs := [a0_0, a0_1, a0_2, a0_3, (oneI a0_6), (l0_7.length : Int)]) (inner := [.int .i64 a0_0, .int .i64 a0_1, .int .i64 a0_2, .int .i64 a0_3, .int .i64 (oneI a0_6), .int .i64 (l0_7.length : Int)]) (ok := fun _ => True) (okp := fun _ => True) ?hr (reps_ints _ _ _ [a0_0, a0_1, a0_2, a0_3, (oneI a0_6), (l0_7.length : Int)]) (fun _ h => h) trivial HB.out HB.out.size (by simp) ?_; (case hr => first | (go_simp; done) | (go_simp; rfl)); intro vx w9 ho hb hg hat; (try replace FN := Aside0.mk (Kd.R_grown FN.out hg (fun _ _ => by simp))); (try replace FT := Aside0.mk (Kd.R_grown FT.out hg (fun _ _ => by simp))); (try replace FZ := Aside0.mk (blk_grown FZ.out hg (by simp))); replace HL := Aside0.mk (blk_grown HL.out hg (by simp)); replace HB := Aside0.mk hb; obtain ⟨A27, c27, e9⟩ := Kd.R_slice ho; subst e9; have FN := Aside0.mk ho; clear ho hb hg hat)
         refine hK.out _ _ ?_ ?_
         ·intro _; exact HL.out
         clear hK K
         try simp only [Act.put, List.setIfInBounds_toArray, List.set_cons_zero, List.set_cons_succ]
         refine AnyT.taken (i := 23) (v := ?v175) rfl (by kernel_rfl) (by kernel_rfl) (by kernel_rfl) (by kernel_rfl) (fun _ _ _ h => h) (Or.inl ⟨by rfl, ?y175⟩) ?s175 ?_
         case y175 =>
          intro wSW hSW
          (obtain ⟨k0, k1, k2, k3, k4, k5, k6, k7⟩ := keep8 hSW; go_simp)
          all_goals with_reducible rfl
         case s175 => exact HL.out
         try simp only [Act.put, List.setIfInBounds_toArray, List.set_cons_zero, List.set_cons_succ]
         refine AnyT.ready (rs := [25]) (by kernel_rfl) (by simp) (AllT.step rfl (fun K hK => ?b17625) AllT.nil)
         case b17625 =>
          (have hs0 := (blk_cell FZ.out 0).trans rfl; have hs1 := (blk_cell FZ.out 1).trans rfl; have hf0 := blk_frozen FZ.out 0; have hf1 := blk_frozen FZ.out 1; go_simp)
          refine hK.out _ _ ?_ ?_
          ·exact past (by kernel_rfl)
          clear hK K
          try simp only [Act.put, List.setIfInBounds_toArray, List.set_cons_zero, List.set_cons_succ]
          refine AnyT.done (by kernel_rfl) ?_ _
          refine NoPanic.normal ?_
          (go_wp2; go_meet)
          (case rel => exact ⟨gz, .slice A27 6 c27, .slice A35 (l0_7.length + 2) c35, rfl, ⟨PE.of (vN' := .slice none 0 0) (vT' := .slice none 0 0) HL.out HB.out FN.out FT.out FZ.out FG.out⟩⟩)
     case b12824 =>
      (refine step_alloc (ob := .cells #[.slice none 0 0, .slice none 0 0] 48) (by rfl) ?hr ?_; (case hr => first | (go_simp; done) | (go_simp; rfl)); intro w9 gz hq hge hb; have FG : Aside0 (w.heap.size ≤ gz) := ⟨Nat.le_trans HB.out.size hge⟩; (try replace FN := Aside0.mk (Kd.R_below FN.out hb)); (try replace FT := Aside0.mk (Kd.R_below FT.out hb)); (try replace FZ := Aside0.mk (blk_below FZ.out hb)); replace HL := Aside0.mk (blk_below HL.out hb); replace HB := Aside0.mk (below_step HB.out hb); have FZ := Aside0.mk hq; clear hq hge hb)
      refine hK.out _ _ ?_ ?_
      ·intro _; exact HL.out
      clear hK K
      try simp only [Act.put, List.setIfInBounds_toArray, List.set_cons_zero, List.set_cons_succ]
      refine AnyT.ready (rs := [10]) (by kernel_rfl) (by simp) (AllT.step rfl (fun K hK => ?b18010) AllT.nil)
      case b18010 =>
       (refine goes_ Try.func20 (by kernel_rfl) rfl #[.bool a0_6] (by rfl) rfl rfl (by (try simp only [List.map_toArray, List.map_cons, List.map_nil]); first | done | rfl) ?_; refine (one_calls a0_6 _).mono ?_; rintro e w9 ⟨rfl, hb⟩; refine ⟨_, rfl, ?_⟩; (try replace FN := Aside0.mk (Kd.R_below FN.out hb)); (try replace FT := Aside0.mk (Kd.R_below FT.out hb)); (try replace FZ := Aside0.mk (blk_below FZ.out hb)); replace HL := Aside0.mk (blk_below HL.out hb); replace HB := Aside0.mk (below_step HB.out hb); clear hb)
       refine hK.out _ _ ?_ ?_
       ·intro _; exact HL.out
       clear hK K
       try simp only [Act.put, List.setIfInBounds_toArray, List.set_cons_zero, List.set_cons_succ]
       refine AnyT.ready (rs := [14, 22]) (by kernel_rfl) (by simp) (AllT.step rfl (fun K hK => ?b18214) (AllT.step rfl (fun K hK => ?b18222) AllT.nil))
       case b18214 =>
        (refine Kd.R_lit_step (Kd.int .i64) (w0 := w) w.heap.size 3 (by rfl) (N := 27) (by rfl) (xs := [a0_0, a0_1, a0_2, a0_3, (oneI a0_6), (l0_7.length : Int)]) (inner := [.int .i64 a0_0, .int .i64 a0_1, .int .i64 a0_2, .int .i64 a0_3, .int .i64 (oneI a0_6), .int .i64 (l0_7.length : Int)]) (ok := fun _ => True) (okp := fun _ => True) ?hr (reps_ints _ _ _ [a0_0, a0_1, a0_2, a0_3, (oneI a0_6), (l0_7.length : Int)]) (fun _ h => h) trivial HB.out HB.out.size (by simp) ?_; (case hr => first | (go_simp; done) | (go_simp; rfl)); intro vx w9 ho hb hg hat; (try replace FN := Aside0.mk (Kd.R_grown FN.out hg (fun _ _ => by simp))); (try replace FT := Aside0.mk (Kd.R_grown FT.out hg (fun _ _ => by simp))); (try replace FZ := Aside0.mk (blk_grown FZ.out hg (by simp))); replace HL := Aside0.mk (blk_grown HL.out hg (by simp)); replace HB := Aside0.mk hb; obtain ⟨A27, c27, e9⟩ := Kd.R_slice ho; subst e9; have FN := Aside0.mk ho; clear ho hb hg hat)
        refine hK.out _ _ ?_ ?_
        ·intro _; exact HL.out
        clear hK K
        try simp only [Act.put, List.setIfInBounds_toArray, List.set_cons_zero, List.set_cons_succ]
        refine AnyT.ready (rs := [22]) (by kernel_rfl) (by simp) (AllT.step rfl (fun K hK => ?b18422) AllT.nil)
        case b18422 =>
         (refine Kd.R_append_rows_step Kd.string (w0 := w) w.heap.size (by rfl) (.tmp 32) (.tmp 34) 22 9 (.string ⟨#[]⟩) 16 (by rfl) Try.underlying22 info9 rfl (by decide) (by omega) (.slice A32 2 c32) [a0_4, a0_5] l0_7 _ _ _ (fun _ => True) (fun _ => False) (by rfl) (by rfl) FT.out (Kd.C_below HR7.out HB.out) (fun _ _ h => h) (fun _ h => h.elim) (fun _ _ => trivial) HB.out HB.out.size (by simp only [List.length_cons, List.length_nil]; omega) ?_; intro vx w9 ho hb hg hat; (try replace FN := Aside0.mk (Kd.R_over FN.out FT.out (by decide) hg)); (try replace FZ := Aside0.mk (blk_grown FZ.out hg (Kd.R_ne FT.out FZ.out (by decide)))); replace HL := Aside0.mk (blk_grown HL.out hg (Kd.R_ne FT.out HL.out (by decide))); replace HB := Aside0.mk hb; obtain ⟨A35, c35, e9⟩ := Kd.R_slice ho; subst e9; replace FT := Aside0.mk ho; clear ho hb hg hat)
         refine hK.out _ _ ?_ ?_
         ·intro _; exact HL.out
         clear hK K
         try simp only [Act.put, List.setIfInBounds_toArray, List.set_cons_zero, List.set_cons_succ]
         refine AnyT.taken (i := 23) (v := ?v186) rfl (by kernel_rfl) (by kernel_rfl) (by kernel_rfl) (by kernel_rfl) (fun _ _ _ h => h) (Or.inl ⟨by rfl, ?y186⟩) ?s186 ?_
         case y186 =>
          intro wSW hSW
          (obtain ⟨k0, k1, k2, k3, k4, k5, k6, k7⟩ := keep8 hSW; go_simp)
          all_goals with_reducible rfl
         case s186 => exact HL.out
         try simp only [Act.put, List.setIfInBounds_toArray, List.set_cons_zero, List.set_cons_succ]
         refine AnyT.ready (rs := [25]) (by kernel_rfl) (by simp) (AllT.step rfl (fun K hK => ?b18725) AllT.nil)
         case b18725 =>
          (have hs0 := (blk_cell FZ.out 0).trans rfl; have hs1 := (blk_cell FZ.out 1).trans rfl; have hf0 := blk_frozen FZ.out 0; have hf1 := blk_frozen FZ.out 1; go_simp)
          refine hK.out _ _ ?_ ?_
          ·exact past (by kernel_rfl)
          clear hK K
          try simp only [Act.put, List.setIfInBounds_toArray, List.set_cons_zero, List.set_cons_succ]
          refine AnyT.done (by kernel_rfl) ?_ _
          refine NoPanic.normal ?_
          (go_wp2; go_meet)
          (case rel => exact ⟨gz, .slice A27 6 c27, .slice A35 (l0_7.length + 2) c35, rfl, ⟨PE.of (vN' := .slice none 0 0) (vT' := .slice none 0 0) HL.out HB.out FN.out FT.out FZ.out FG.out⟩⟩)
       case b18222 =>
        (refine Kd.R_append_rows_step Kd.string (w0 := w) w.heap.size (by rfl) (.tmp 32) (.tmp 34) 22 9 (.string ⟨#[]⟩) 16 (by rfl) Try.underlying22 info9 rfl (by decide) (by omega) (.slice A32 2 c32) [a0_4, a0_5] l0_7 _ _ _ (fun _ => True) (fun _ => False) (by rfl) (by rfl) FT.out (Kd.C_below HR7.out HB.out) (fun _ _ h => h) (fun _ h => h.elim) (fun _ _ => trivial) HB.out HB.out.size (by simp only [List.length_cons, List.length_nil]; omega) ?_; intro vx w9 ho hb hg hat; (try replace FN := Aside0.mk (Kd.R_over FN.out FT.out (by decide) hg)); (try replace FZ := Aside0.mk (blk_grown FZ.out hg (Kd.R_ne FT.out FZ.out (by decide)))); replace HL := Aside0.mk (blk_grown HL.out hg (Kd.R_ne FT.out HL.out (by decide))); replace HB := Aside0.mk hb; obtain ⟨A35, c35, e9⟩ := Kd.R_slice ho; subst e9; replace FT := Aside0.mk ho; clear ho hb hg hat)
        refine hK.out _ _ ?_ ?_
        ·intro _; exact HL.out
        clear hK K
        try simp only [Act.put, List.setIfInBounds_toArray, List.set_cons_zero, List.set_cons_succ]
        refine AnyT.ready (rs := [14]) (by kernel_rfl) (by simp) (AllT.step rfl (fun K hK => ?b19114) AllT.nil)
        case b19114 =>
         (refine Kd.R_lit_step (Kd.int .i64) (w0 := w) w.heap.size 3 (by rfl) (N := 27) (by rfl) (xs := [a0_0, a0_1, a0_2, a0_3, (oneI a0_6), (l0_7.length : Int)]) (inner := [.int .i64 a0_0, .int .i64 a0_1, .int .i64 a0_2, .int .i64 a0_3, .int .i64 (oneI a0_6), .int .i64 (l0_7.length : Int)]) (ok := fun _ => True) (okp := fun _ => True) ?hr (reps_ints _ _ _ [a0_0, a0_1, a0_2, a0_3, (oneI a0_6), (l0_7.length : Int)]) (fun _ h => h) trivial HB.out HB.out.size (by simp) ?_; (case hr => first | (go_simp; done) | (go_simp; rfl)); intro vx w9 ho hb hg hat; (try replace FN := Aside0.mk (Kd.R_grown FN.out hg (fun _ _ => by simp))); (try replace FT := Aside0.mk (Kd.R_grown FT.out hg (fun _ _ => by simp))); (try replace FZ := Aside0.mk (blk_grown FZ.out hg (by simp))); replace HL := Aside0.mk (blk_grown HL.out hg (by simp)); replace HB := Aside0.mk hb; obtain ⟨A27, c27, e9⟩ := Kd.R_slice ho; subst e9; have FN := Aside0.mk ho; clear ho hb hg hat)
         refine hK.out _ _ ?_ ?_
         ·intro _; exact HL.out
         clear hK K
         try simp only [Act.put, List.setIfInBounds_toArray, List.set_cons_zero, List.set_cons_succ]
         refine AnyT.taken (i := 23) (v := ?v193) rfl (by kernel_rfl) (by kernel_rfl) (by kernel_rfl) (by kernel_rfl) (fun _ _ _ h => h) (Or.inl ⟨by rfl, ?y193⟩) ?s193 ?_
         case y193 =>
          intro wSW hSW
          (obtain ⟨k0, k1, k2, k3, k4, k5, k6, k7⟩ := keep8 hSW; go_simp)
          all_goals with_reducible rfl
         case s193 => exact HL.out
         try simp only [Act.put, List.setIfInBounds_toArray, List.set_cons_zero, List.set_cons_succ]
         refine AnyT.ready (rs := [25]) (by kernel_rfl) (by simp) (AllT.step rfl (fun K hK => ?b19425) AllT.nil)
         case b19425 =>
          (have hs0 := (blk_cell FZ.out 0).trans rfl; have hs1 := (blk_cell FZ.out 1).trans rfl; have hf0 := blk_frozen FZ.out 0; have hf1 := blk_frozen FZ.out 1; go_simp)
          refine hK.out _ _ ?_ ?_
          ·exact past (by kernel_rfl)
          clear hK K
          try simp only [Act.put, List.setIfInBounds_toArray, List.set_cons_zero, List.set_cons_succ]
          refine AnyT.done (by kernel_rfl) ?_ _
          refine NoPanic.normal ?_
          (go_wp2; go_meet)
          (case rel => exact ⟨gz, .slice A27 6 c27, .slice A35 (l0_7.length + 2) c35, rfl, ⟨PE.of (vN' := .slice none 0 0) (vT' := .slice none 0 0) HL.out HB.out FN.out FT.out FZ.out FG.out⟩⟩)
    case b2024 =>
     (refine step_alloc (ob := .cells #[.slice none 0 0, .slice none 0 0] 48) (by rfl) ?hr ?_; (case hr => first | (go_simp; done) | (go_simp; rfl)); intro w9 gz hq hge hb; have FG : Aside0 (w.heap.size ≤ gz) := ⟨Nat.le_trans HB.out.size hge⟩; (try replace FN := Aside0.mk (Kd.R_below FN.out hb)); (try replace FT := Aside0.mk (Kd.R_below FT.out hb)); (try replace FZ := Aside0.mk (blk_below FZ.out hb)); replace HL := Aside0.mk (blk_below HL.out hb); replace HB := Aside0.mk (below_step HB.out hb); have FZ := Aside0.mk hq; clear hq hge hb)
     refine hK.out _ _ ?_ ?_
     ·intro _; exact HL.out
     clear hK K
     try simp only [Act.put, List.setIfInBounds_toArray, List.set_cons_zero, List.set_cons_succ]
     refine AnyT.ready (rs := [10, 19]) (by kernel_rfl) (by simp) (AllT.step rfl (fun K hK => ?b19810) (AllT.step rfl (fun K hK => ?b19819) AllT.nil))
     case b19810 =>
      (refine goes_ Try.func20 (by kernel_rfl) rfl #[.bool a0_6] (by rfl) rfl rfl (by (try simp only [List.map_toArray, List.map_cons, List.map_nil]); first | done | rfl) ?_; refine (one_calls a0_6 _).mono ?_; rintro e w9 ⟨rfl, hb⟩; refine ⟨_, rfl, ?_⟩; (try replace FN := Aside0.mk (Kd.R_below FN.out hb)); (try replace FT := Aside0.mk (Kd.R_below FT.out hb)); (try replace FZ := Aside0.mk (blk_below FZ.out hb)); replace HL := Aside0.mk (blk_below HL.out hb); replace HB := Aside0.mk (below_step HB.out hb); clear hb)
      refine hK.out _ _ ?_ ?_
      ·intro _; exact HL.out
      clear hK K
      try simp only [Act.put, List.setIfInBounds_toArray, List.set_cons_zero, List.set_cons_succ]
      refine AnyT.ready (rs := [14, 19]) (by kernel_rfl) (by simp) (AllT.step rfl (fun K hK => ?b20014) (AllT.step rfl (fun K hK => ?b20019) AllT.nil))
      case b20014 =>
       (refine Kd.R_lit_step (Kd.int .i64) (w0 := w) w.heap.size 3 (by rfl) (N := 27) (by rfl) (xs := [a0_0, a0_1, a0_2, a0_3, (oneI a0_6), (l0_7.length : Int)]) (inner := [.int .i64 a0_0, .int .i64 a0_1, .int .i64 a0_2, .int .i64 a0_3, .int .i64 (oneI a0_6), .int .i64 (l0_7.length : Int)]) (ok := fun _ => True) (okp := fun _ => True) ?hr (reps_ints _ _ _ [a0_0, a0_1, a0_2, a0_3, (oneI a0_6), (l0_7.length : Int)]) (fun _ h => h) trivial HB.out HB.out.size (by simp) ?_; (case hr => first | (go_simp; done) | (go_simp; rfl)); intro vx w9 ho hb hg hat; (try replace FN := Aside0.mk (Kd.R_grown FN.out hg (fun _ _ => by simp))); (try replace FT := Aside0.mk (Kd.R_grown FT.out hg (fun _ _ => by simp))); (try replace FZ := Aside0.mk (blk_grown FZ.out hg (by simp))); replace HL := Aside0.mk (blk_grown HL.out hg (by simp)); replace HB := Aside0.mk hb; obtain ⟨A27, c27, e9⟩ := Kd.R_slice ho; subst e9; have FN := Aside0.mk ho; clear ho hb hg hat)
       refine hK.out _ _ ?_ ?_
       ·intro _; exact HL.out
       clear hK K
       try simp only [Act.put, List.setIfInBounds_toArray, List.set_cons_zero, List.set_cons_succ]
       refine AnyT.ready (rs := [19]) (by kernel_rfl) (by simp) (AllT.step rfl (fun K hK => ?b20219) AllT.nil)
       case b20219 =>
        (refine Kd.R_lit_step Kd.string (w0 := w) w.heap.size 9 (by rfl) (N := 32) (by rfl) (xs := [a0_4, a0_5]) (inner := [.string a0_4, .string a0_5]) (ok := fun _ => True) (okp := fun _ => True) ?hr (reps_texts _ _ _ [a0_4, a0_5]) (fun _ h => h) trivial HB.out HB.out.size (by simp) ?_; (case hr => first | (go_simp; done) | (go_simp; rfl)); intro vx w9 ho hb hg hat; (try replace FN := Aside0.mk (Kd.R_grown FN.out hg (fun _ _ => by simp))); (try replace FT := Aside0.mk (Kd.R_grown FT.out hg (fun _ _ => by simp))); (try replace FZ := Aside0.mk (blk_grown FZ.out hg (by simp))); replace HL := Aside0.mk (blk_grown HL.out hg (by simp)); replace HB := Aside0.mk hb; obtain ⟨A32, c32, e9⟩ := Kd.R_slice ho; subst e9; have FT := Aside0.mk ho; clear ho hb hg hat)
        refine hK.out _ _ ?_ ?_
        ·intro _; exact HL.out
        clear hK K
        try simp only [Act.put, List.setIfInBounds_toArray, List.set_cons_zero, List.set_cons_succ]
        refine AnyT.ready (rs := [22]) (by kernel_rfl) (by simp) (AllT.step rfl (fun K hK => ?b20422) AllT.nil)
        case b20422 =>
         (refine Kd.R_append_rows_step Kd.string (w0 := w) w.heap.size (by rfl) (.tmp 32) (.tmp 34) 22 9 (.string ⟨#[]⟩) 16 (by rfl) Try.underlying22 info9 rfl (by decide) (by omega) (.slice A32 2 c32) [a0_4, a0_5] l0_7 _ _ _ (fun _ => True) (fun _ => False) (by rfl) (by rfl) FT.out (Kd.C_below HR7.out HB.out) (fun _ _ h => h) (fun _ h => h.elim) (fun _ _ => trivial) HB.out HB.out.size (by simp only [List.length_cons, List.length_nil]; omega) ?_; intro vx w9 ho hb hg hat; (try replace FN := Aside0.mk (Kd.R_over FN.out FT.out (by decide) hg)); (try replace FZ := Aside0.mk (blk_grown FZ.out hg (Kd.R_ne FT.out FZ.out (by decide)))); replace HL := Aside0.mk (blk_grown HL.out hg (Kd.R_ne FT.out HL.out (by decide))); replace HB := Aside0.mk hb; obtain ⟨A35, c35, e9⟩ := Kd.R_slice ho; subst e9; replace FT := Aside0.mk ho; clear ho hb hg hat)
         refine hK.out _ _ ?_ ?_
         ·intro _; exact HL.out
         clear hK K
         try simp only [Act.put, List.setIfInBounds_toArray, List.set_cons_zero, List.set_cons_succ]
         refine AnyT.taken (i := 23) (v := ?v206) rfl (by kernel_rfl) (by kernel_rfl) (by kernel_rfl) (by kernel_rfl) (fun _ _ _ h => h) (Or.inl ⟨by rfl, ?y206⟩) ?s206 ?_
         case y206 =>
          intro wSW hSW
          (obtain ⟨k0, k1, k2, k3, k4, k5, k6, k7⟩ := keep8 hSW; go_simp)
          all_goals with_reducible rfl
         case s206 => exact HL.out
         try simp only [Act.put, List.setIfInBounds_toArray, List.set_cons_zero, List.set_cons_succ]
         refine AnyT.ready (rs := [25]) (by kernel_rfl) (by simp) (AllT.step rfl (fun K hK => ?b20725) AllT.nil)
         case b20725 =>
          (have hs0 := (blk_cell FZ.out 0).trans rfl; have hs1 := (blk_cell FZ.out 1).trans rfl; have hf0 := blk_frozen FZ.out 0; have hf1 := blk_frozen FZ.out 1; go_simp)
          refine hK.out _ _ ?_ ?_
          ·exact past (by kernel_rfl)
          clear hK K
          try simp only [Act.put, List.setIfInBounds_toArray, List.set_cons_zero, List.set_cons_succ]
          refine AnyT.done (by kernel_rfl) ?_ _
          refine NoPanic.normal ?_
          (go_wp2; go_meet)
          (case rel => exact ⟨gz, .slice A27 6 c27, .slice A35 (l0_7.length + 2) c35, rfl, ⟨PE.of (vN' := .slice none 0 0) (vT' := .slice none 0 0) HL.out HB.out FN.out FT.out FZ.out FG.out⟩⟩)
      case b20019 =>
       (refine Kd.R_lit_step Kd.string (w0 := w) w.heap.size 9 (by rfl) (N := 32) (by rfl) (xs := [a0_4, a0_5]) (inner := [.string a0_4, .string a0_5]) (ok := fun _ => True) (okp := fun _ => True) ?hr (reps_texts _ _ _ [a0_4, a0_5]) (fun _ h => h) trivial HB.out HB.out.size (by simp) ?_; (case hr => first | (go_simp; done) | (go_simp; rfl)); intro vx w9 ho hb hg hat; (try replace FN := Aside0.mk (Kd.R_grown FN.out hg (fun _ _ => by simp))); (try replace FT := Aside0.mk (Kd.R_grown FT.out hg (fun _ _ => by simp))); (try replace FZ := Aside0.mk (blk_grown FZ.out hg (by simp))); replace HL := Aside0.mk (blk_grown HL.out hg (by simp)); replace HB := Aside0.mk hb; obtain ⟨A32, c32, e9⟩ := Kd.R_slice ho; subst e9; have FT := Aside0.mk ho; clear ho hb hg hat)
       refine hK.out _ _ ?_ ?_
       ·intro _; exact HL.out
       clear hK K
       try simp only [Act.put, List.setIfInBounds_toArray, List.set_cons_zero, List.set_cons_succ]
       refine AnyT.ready (rs := [14, 22]) (by kernel_rfl) (by simp) (AllT.step rfl (fun K hK => ?b21114) (AllT.step rfl (fun K hK => ?b21122) AllT.nil))
       case b21114 =>
        (refine Kd.R_lit_step (Kd.int .i64) (w0 := w) w.heap.size 3 (by rfl) (N := 27) (by rfl) (xs := [a0_0, a0_1, a0_2, a0_3, (oneI a0_6), (l0_7.length : Int)]) (inner := [.int .i64 a0_0, .int .i64 a0_1, .int .i64 a0_2, .int .i64 a0_3, .int .i64 (oneI a0_6), .int .i64 (l0_7.length : Int)]) (ok := fun _ => True) (okp := fun _ => True) ?hr (reps_ints _ _ _ [a0_0, a0_1, a0_2, a0_3, (oneI a0_6), (l0_7.length : Int)]) (fun _ h => h) trivial HB.out HB.out.size (by simp) ?_; (case hr => first | (go_simp; done) | (go_simp; rfl)); intro vx w9 ho hb hg hat; (try replace FN := Aside0.mk (Kd.R_grown FN.out hg (fun _ _ => by simp))); (try replace FT := Aside0.mk (Kd.R_grown FT.out hg (fun _ _ => by simp))); (try replace FZ := Aside0.mk (blk_grown FZ.out hg (by simp))); replace HL := Aside0.mk (blk_grown HL.out hg (by simp)); replace HB := Aside0.mk hb; obtain ⟨A27, c27, e9⟩ := Kd.R_slice ho; subst e9; have FN := Aside0.mk ho; clear ho hb hg hat)
        refine hK.out _ _ ?_ ?_
        ·intro _; exact HL.out
        clear hK K
        try simp only [Act.put, List.setIfInBounds_toArray, List.set_cons_zero, List.set_cons_succ]
        refine AnyT.ready (rs := [22]) (by kernel_rfl) (by simp) (AllT.step rfl (fun K hK => ?b21322) AllT.nil)
        case b21322 =>
         (refine Kd.R_append_rows_step Kd.string (w0 := w) w.heap.size (by rfl) (.tmp 32) (.tmp 34) 22 9 (.string ⟨#[]⟩) 16 (by rfl) Try.underlying22 info9 rfl (by decide) (by omega) (.slice A32 2 c32) [a0_4, a0_5] l0_7 _ _ _ (fun _ => True) (fun _ => False) (by rfl) (by rfl) FT.out (Kd.C_below HR7.out HB.out) (fun _ _ h => h) (fun _ h => h.elim) (fun _ _ => trivial) HB.out HB.out.size (by simp only [List.length_cons, List.length_nil]; omega) ?_; intro vx w9 ho hb hg hat; (try replace FN := Aside0.mk (Kd.R_over FN.out FT.out (by decide) hg)); (try replace FZ := Aside0.mk (blk_grown FZ.out hg (Kd.R_ne FT.out FZ.out (by decide)))); replace HL := Aside0.mk (blk_grown HL.out hg (Kd.R_ne FT.out HL.out (by decide))); replace HB := Aside0.mk hb; obtain ⟨A35, c35, e9⟩ := Kd.R_slice ho; subst e9; replace FT := Aside0.mk ho; clear ho hb hg hat)
         refine hK.out _ _ ?_ ?_
         ·intro _; exact HL.out
         clear hK K
         try simp only [Act.put, List.setIfInBounds_toArray, List.set_cons_zero, List.set_cons_succ]
         refine AnyT.taken (i := 23) (v := ?v215) rfl (by kernel_rfl) (by kernel_rfl) (by kernel_rfl) (by kernel_rfl) (fun _ _ _ h => h) (Or.inl ⟨by rfl, ?y215⟩) ?s215 ?_
         case y215 =>
          intro wSW hSW
          (obtain ⟨k0, k1, k2, k3, k4, k5, k6, k7⟩ := keep8 hSW; go_simp)
          all_goals with_reducible rfl
         case s215 => exact HL.out
         try simp only [Act.put, List.setIfInBounds_toArray, List.set_cons_zero, List.set_cons_succ]
         refine AnyT.ready (rs := [25]) (by kernel_rfl) (by simp) (AllT.step rfl (fun K hK => ?b21625) AllT.nil)
         case b21625 =>
          (have hs0 := (blk_cell FZ.out 0).trans rfl; have hs1 := (blk_cell FZ.out 1).trans rfl; have hf0 := blk_frozen FZ.out 0; have hf1 := blk_frozen FZ.out 1; go_simp)
          refine hK.out _ _ ?_ ?_
          ·exact past (by kernel_rfl)
          clear hK K
          try simp only [Act.put, List.setIfInBounds_toArray, List.set_cons_zero, List.set_cons_succ]
          refine AnyT.done (by kernel_rfl) ?_ _
          refine NoPanic.normal ?_
          (go_wp2; go_meet)
          (case rel => exact ⟨gz, .slice A27 6 c27, .slice A35 (l0_7.length + 2) c35, rfl, ⟨PE.of (vN' := .slice none 0 0) (vT' := .slice none 0 0) HL.out HB.out FN.out FT.out FZ.out FG.out⟩⟩)
       case b21122 =>
        (refine Kd.R_append_rows_step Kd.string (w0 := w) w.heap.size (by rfl) (.tmp 32) (.tmp 34) 22 9 (.string ⟨#[]⟩) 16 (by rfl) Try.underlying22 info9 rfl (by decide) (by omega) (.slice A32 2 c32) [a0_4, a0_5] l0_7 _ _ _ (fun _ => True) (fun _ => False) (by rfl) (by rfl) FT.out (Kd.C_below HR7.out HB.out) (fun _ _ h => h) (fun _ h => h.elim) (fun _ _ => trivial) HB.out HB.out.size (by simp only [List.length_cons, List.length_nil]; omega) ?_; intro vx w9 ho hb hg hat; (try replace FN := Aside0.mk (Kd.R_over FN.out FT.out (by decide) hg)); (try replace FZ := Aside0.mk (blk_grown FZ.out hg (Kd.R_ne FT.out FZ.out (by decide)))); replace HL := Aside0.mk (blk_grown HL.out hg (Kd.R_ne FT.out HL.out (by decide))); replace HB := Aside0.mk hb; obtain ⟨A35, c35, e9⟩ := Kd.R_slice ho; subst e9; replace FT := Aside0.mk ho; clear ho hb hg hat)
        refine hK.out _ _ ?_ ?_
        ·intro _; exact HL.out
        clear hK K
        try simp only [Act.put, List.setIfInBounds_toArray, List.set_cons_zero, List.set_cons_succ]
        refine AnyT.ready (rs := [14]) (by kernel_rfl) (by simp) (AllT.step rfl (fun K hK => ?b22014) AllT.nil)
        case b22014 =>
         (refine Kd.R_lit_step (Kd.int .i64) (w0 := w) w.heap.size 3 (by rfl) (N := 27) (by rfl) (xs := [a0_0, a0_1, a0_2, a0_3, (oneI a0_6), (l0_7.length : Int)]) (inner := [.int .i64 a0_0, .int .i64 a0_1, .int .i64 a0_2, .int .i64 a0_3, .int .i64 (oneI a0_6), .int .i64 (l0_7.length : Int)]) (ok := fun _ => True) (okp := fun _ => True) ?hr (reps_ints _ _ _ [a0_0, a0_1, a0_2, a0_3, (oneI a0_6), (l0_7.length : Int)]) (fun _ h => h) trivial HB.out HB.out.size (by simp) ?_; (case hr => first | (go_simp; done) | (go_simp; rfl)); intro vx w9 ho hb hg hat; (try replace FN := Aside0.mk (Kd.R_grown FN.out hg (fun _ _ => by simp))); (try replace FT := Aside0.mk (Kd.R_grown FT.out hg (fun _ _ => by simp))); (try replace FZ := Aside0.mk (blk_grown FZ.out hg (by simp))); replace HL := Aside0.mk (blk_grown HL.out hg (by simp)); replace HB := Aside0.mk hb; obtain ⟨A27, c27, e9⟩ := Kd.R_slice ho; subst e9; have FN := Aside0.mk ho; clear ho hb hg hat)
         refine hK.out _ _ ?_ ?_
         ·intro _; exact HL.out
         clear hK K
         try simp only [Act.put, List.setIfInBounds_toArray, List.set_cons_zero, List.set_cons_succ]
         refine AnyT.taken (i := 23) (v := ?v222) rfl (by kernel_rfl) (by kernel_rfl) (by kernel_rfl) (by kernel_rfl) (fun _ _ _ h => h) (Or.inl ⟨by rfl, ?y222⟩) ?s222 ?_
         case y222 =>
          intro wSW hSW
          (obtain ⟨k0, k1, k2, k3, k4, k5, k6, k7⟩ := keep8 hSW; go_simp)
          all_goals with_reducible rfl
         case s222 => exact HL.out
         try simp only [Act.put, List.setIfInBounds_toArray, List.set_cons_zero, List.set_cons_succ]
         refine AnyT.ready (rs := [25]) (by kernel_rfl) (by simp) (AllT.step rfl (fun K hK => ?b22325) AllT.nil)
         case b22325 =>
          (have hs0 := (blk_cell FZ.out 0).trans rfl; have hs1 := (blk_cell FZ.out 1).trans rfl; have hf0 := blk_frozen FZ.out 0; have hf1 := blk_frozen FZ.out 1; go_simp)
          refine hK.out _ _ ?_ ?_
          ·exact past (by kernel_rfl)
          clear hK K
          try simp only [Act.put, List.setIfInBounds_toArray, List.set_cons_zero, List.set_cons_succ]
          refine AnyT.done (by kernel_rfl) ?_ _
          refine NoPanic.normal ?_
          (go_wp2; go_meet)
          (case rel => exact ⟨gz, .slice A27 6 c27, .slice A35 (l0_7.length + 2) c35, rfl, ⟨PE.of (vN' := .slice none 0 0) (vT' := .slice none 0 0) HL.out HB.out FN.out FT.out FZ.out FG.out⟩⟩)
     case b19819 =>
      (refine Kd.R_lit_step Kd.string (w0 := w) w.heap.size 9 (by rfl) (N := 32) (by rfl) (xs := [a0_4, a0_5]) (inner := [.string a0_4, .string a0_5]) (ok := fun _ => True) (okp := fun _ => True) ?hr (reps_texts _ _ _ [a0_4, a0_5]) (fun _ h => h) trivial HB.out HB.out.size (by simp) ?_; (case hr => first | (go_simp; done) | (go_simp; rfl)); intro vx w9 ho hb hg hat; (try replace FN := Aside0.mk (Kd.R_grown FN.out hg (fun _ _ => by simp))); (try replace FT := Aside0.mk (Kd.R_grown FT.out hg (fun _ _ => by simp))); (try replace FZ := Aside0.mk (blk_grown FZ.out hg (by simp))); replace HL := Aside0.mk (blk_grown HL.out hg (by simp)); replace HB := Aside0.mk hb; obtain ⟨A32, c32, e9⟩ := Kd.R_slice ho; subst e9; have FT := Aside0.mk ho; clear ho hb hg hat)
      refine hK.out _ _ ?_ ?_
      ·intro _; exact HL.out
      clear hK K
      try simp only [Act.put, List.setIfInBounds_toArray, List.set_cons_zero, List.set_cons_succ]
      refine AnyT.ready (rs := [10]) (by kernel_rfl) (by simp) (AllT.step rfl (fun K hK => ?b22710) AllT.nil)
      case b22710 =>
       (refine goes_ Try.func20 (by kernel_rfl) rfl #[.bool a0_6] (by rfl) rfl rfl (by (try simp only [List.map_toArray, List.map_cons, List.map_nil]); first | done | rfl) ?_; refine (one_calls a0_6 _).mono ?_; rintro e w9 ⟨rfl, hb⟩; refine ⟨_, rfl, ?_⟩; (try replace FN := Aside0.mk (Kd.R_below FN.out hb)); (try replace FT := Aside0.mk (Kd.R_below FT.out hb)); (try replace FZ := Aside0.mk (blk_below FZ.out hb)); replace HL := Aside0.mk (blk_below HL.out hb); replace HB := Aside0.mk (below_step HB.out hb); clear hb)
       refine hK.out _ _ ?_ ?_
       ·intro _; exact HL.out
       clear hK K
       try simp only [Act.put, List.setIfInBounds_toArray, List.set_cons_zero, List.set_cons_succ]
       refine AnyT.ready (rs := [14, 22]) (by kernel_rfl) (by simp) (AllT.step rfl (fun K hK => ?b22914) (AllT.step rfl (fun K hK => ?b22922) AllT.nil))
       case b22914 =>
        (refine Kd.R_lit_step (Kd.int .i64) (w0 := w) w.heap.size 3 (by rfl) (N := 27) (by rfl) (xs := [a0_0, a0_1, a0_2, a0_3, (oneI a0_6), (l0_7.length : Int)]) (inner := [.int .i64 a0_0, .int .i64 a0_1, .int .i64 a0_2, .int .i64 a0_3, .int .i64 (oneI a0_6), .int .i64 (l0_7.length : Int)]) (ok := fun _ => True) (okp := fun _ => True) ?hr (reps_ints _ _ _ [a0_0, a0_1, a0_2, a0_3, (oneI a0_6), (l0_7.length : Int)]) (fun _ h => h) trivial HB.out HB.out.size (by simp) ?_; (case hr => first | (go_simp; done) | (go_simp; rfl)); intro vx w9 ho hb hg hat; (try replace FN := Aside0.mk (Kd.R_grown FN.out hg (fun _ _ => by simp))); (try replace FT := Aside0.mk (Kd.R_grown FT.out hg (fun _ _ => by simp))); (try replace FZ := Aside0.mk (blk_grown FZ.out hg (by simp))); replace HL := Aside0.mk (blk_grown HL.out hg (by simp)); replace HB := Aside0.mk hb; obtain ⟨A27, c27, e9⟩ := Kd.R_slice ho; subst e9; have FN := Aside0.mk ho; clear ho hb hg hat)
        refine hK.out _ _ ?_ ?_
        ·intro _; exact HL.out
        clear hK K
        try simp only [Act.put, List.setIfInBounds_toArray, List.set_cons_zero, List.set_cons_succ]
        refine AnyT.ready (rs := [22]) (by kernel_rfl) (by simp) (AllT.step rfl (fun K hK => ?b23122) AllT.nil)
        case b23122 =>
         (refine Kd.R_append_rows_step Kd.string (w0 := w) w.heap.size (by rfl) (.tmp 32) (.tmp 34) 22 9 (.string ⟨#[]⟩) 16 (by rfl) Try.underlying22 info9 rfl (by decide) (by omega) (.slice A32 2 c32) [a0_4, a0_5] l0_7 _ _ _ (fun _ => True) (fun _ => False) (by rfl) (by rfl) FT.out (Kd.C_below HR7.out HB.out) (fun _ _ h => h) (fun _ h => h.elim) (fun _ _ => trivial) HB.out HB.out.size (by simp only [List.length_cons, List.length_nil]; omega) ?_; intro vx w9 ho hb hg hat; (try replace FN := Aside0.mk (Kd.R_over FN.out FT.out (by decide) hg)); (try replace FZ := Aside0.mk (blk_grown FZ.out hg (Kd.R_ne FT.out FZ.out (by decide)))); replace HL := Aside0.mk (blk_grown HL.out hg (Kd.R_ne FT.out HL.out (by decide))); replace HB := Aside0.mk hb; obtain ⟨A35, c35, e9⟩ := Kd.R_slice ho; subst e9; replace FT := Aside0.mk ho; clear ho hb hg hat)
         refine hK.out _ _ ?_ ?_
         ·intro _; exact HL.out
         clear hK K
         try simp only [Act.put, List.setIfInBounds_toArray, List.set_cons_zero, List.set_cons_succ]
         refine AnyT.taken (i := 23) (v := ?v233) rfl (by kernel_rfl) (by kernel_rfl) (by kernel_rfl) (by kernel_rfl) (fun _ _ _ h => h) (Or.inl ⟨by rfl, ?y233⟩) ?s233 ?_
         case y233 =>
          intro wSW hSW
          (obtain ⟨k0, k1, k2, k3, k4, k5, k6, k7⟩ := keep8 hSW; go_simp)
          all_goals with_reducible rfl
         case s233 => exact HL.out
         try simp only [Act.put, List.setIfInBounds_toArray, List.set_cons_zero, List.set_cons_succ]
         refine AnyT.ready (rs := [25]) (by kernel_rfl) (by simp) (AllT.step rfl (fun K hK => ?b23425) AllT.nil)
         case b23425 =>
          (have hs0 := (blk_cell FZ.out 0).trans rfl; have hs1 := (blk_cell FZ.out 1).trans rfl; have hf0 := blk_frozen FZ.out 0; have hf1 := blk_frozen FZ.out 1; go_simp)
          refine hK.out _ _ ?_ ?_
          ·exact past (by kernel_rfl)
          clear hK K
          try simp only [Act.put, List.setIfInBounds_toArray, List.set_cons_zero, List.set_cons_succ]
          refine AnyT.done (by kernel_rfl) ?_ _
          refine NoPanic.normal ?_
          (go_wp2; go_meet)
          (case rel => exact ⟨gz, .slice A27 6 c27, .slice A35 (l0_7.length + 2) c35, rfl, ⟨PE.of (vN' := .slice none 0 0) (vT' := .slice none 0 0) HL.out HB.out FN.out FT.out FZ.out FG.out⟩⟩)
       case b22922 =>
        (refine Kd.R_append_rows_step Kd.string (w0 := w) w.heap.size (by rfl) (.tmp 32) (.tmp 34) 22 9 (.string ⟨#[]⟩) 16 (by rfl) Try.underlying22 info9 rfl (by decide) (by omega) (.slice A32 2 c32) [a0_4, a0_5] l0_7 _ _ _ (fun _ => True) (fun _ => False) (by rfl) (by rfl) FT.out (Kd.C_below HR7.out HB.out) (fun _ _ h => h) (fun _ h => h.elim) (fun _ _ => trivial) HB.out HB.out.size (by simp only [List.length_cons, List.length_nil]; omega) ?_; intro vx w9 ho hb hg hat; (try replace FN := Aside0.mk (Kd.R_over FN.out FT.out (by decide) hg)); (try replace FZ := Aside0.mk (blk_grown FZ.out hg (Kd.R_ne FT.out FZ.out (by decide)))); replace HL := Aside0.mk (blk_grown HL.out hg (Kd.R_ne FT.out HL.out (by decide))); replace HB := Aside0.mk hb; obtain ⟨A35, c35, e9⟩ := Kd.R_slice ho; subst e9; replace FT := Aside0.mk ho; clear ho hb hg hat)
        refine hK.out _ _ ?_ ?_
        ·intro _; exact HL.out
        clear hK K
        try simp only [Act.put, List.setIfInBounds_toArray, List.set_cons_zero, List.set_cons_succ]
        refine AnyT.ready (rs := [14]) (by kernel_rfl) (by simp) (AllT.step rfl (fun K hK => ?b23814) AllT.nil)
        case b23814 =>
         (refine Kd.R_lit_step (Kd.int .i64) (w0 := w) w.heap.size 3 (by rfl) (N := 27) (by rfl) (xs := [a0_0, a0_1, a0_2, a0_3, (oneI a0_6), (l0_7.length : Int)]) (inner := [.int .i64 a0_0, .int .i64 a0_1, .int .i64 a0_2, .int .i64 a0_3, .int .i64 (oneI a0_6), .int .i64 (l0_7.length : Int)]) (ok := fun _ => True) (okp := fun _ => True) ?hr (reps_ints _ _ _ [a0_0, a0_1, a0_2, a0_3, (oneI a0_6), (l0_7.length : Int)]) (fun _ h => h) trivial HB.out HB.out.size (by simp) ?_; (case hr => first | (go_simp; done) | (go_simp; rfl)); intro vx w9 ho hb hg hat; (try replace FN := Aside0.mk (Kd.R_grown FN.out hg (fun _ _ => by simp))); (try replace FT := Aside0.mk (Kd.R_grown FT.out hg (fun _ _ => by simp))); (try replace FZ := Aside0.mk (blk_grown FZ.out hg (by simp))); replace HL := Aside0.mk (blk_grown HL.out hg (by simp)); replace HB := Aside0.mk hb; obtain ⟨A27, c27, e9⟩ := Kd.R_slice ho; subst e9; have FN := Aside0.mk ho; clear ho hb hg hat)
         refine hK.out _ _ ?_ ?_
         ·intro _; exact HL.out
         clear hK K
         try simp only [Act.put, List.setIfInBounds_toArray, List.set_cons_zero, List.set_cons_succ]
         refine AnyT.taken (i := 23) (v := ?v240) rfl (by kernel_rfl) (by kernel_rfl) (by kernel_rfl) (by kernel_rfl) (fun _ _ _ h => h) (Or.inl ⟨by rfl, ?y240⟩) ?s240 ?_
         case y240 =>
          intro wSW hSW
          (obtain ⟨k0, k1, k2, k3, k4, k5, k6, k7⟩ := keep8 hSW; go_simp)
          all_goals with_reducible rfl
         case s240 => exact HL.out
         try simp only [Act.put, List.setIfInBounds_toArray, List.set_cons_zero, List.set_cons_succ]
         refine AnyT.ready (rs := [25]) (by kernel_rfl) (by simp) (AllT.step rfl (fun K hK => ?b24125) AllT.nil)
         case b24125 =>
          (have hs0 := (blk_cell FZ.out 0).trans rfl; have hs1 := (blk_cell FZ.out 1).trans rfl; have hf0 := blk_frozen FZ.out 0; have hf1 := blk_frozen FZ.out 1; go_simp)
          refine hK.out _ _ ?_ ?_
          ·exact past (by kernel_rfl)
          clear hK K
          try simp only [Act.put, List.setIfInBounds_toArray, List.set_cons_zero, List.set_cons_succ]
          refine AnyT.done (by kernel_rfl) ?_ _
          refine NoPanic.normal ?_
          (go_wp2; go_meet)
          (case rel => exact ⟨gz, .slice A27 6 c27, .slice A35 (l0_7.length + 2) c35, rfl, ⟨PE.of (vN' := .slice none 0 0) (vT' := .slice none 0 0) HL.out HB.out FN.out FT.out FZ.out FG.out⟩⟩)
   case rest =>
    obtain ⟨gp, vN0, vT0, rfl, HP0⟩ := hcut
    clear HL HB HB2 BL2
    have hcz_8 : wc.cell? ⟨gl, 8, none⟩ = some (.slice A0_8 l0_8.length c0_8) := (blk_cell HP0.out.bl 8).trans rfl
    go_wp2
    go_loopw [40] (fun v40 wr => ∃ (i : Nat) (x : Int) (xs : List Int) (ts : List ByteArray) (vN vT : Value), v40 = .int .i64 x ∧ Aside0 (x = (i : Int)) ∧ Aside0 (i ≤ l0_8.length) ∧ Aside0 (xs = [a0_0, a0_1, a0_2, a0_3, (oneI a0_6), (l0_7.length : Int)] ++ flagsOf (l0_8.take i)) ∧ Aside0 (ts = ([a0_4, a0_5] ++ l0_7) ++ pairsOf (l0_8.take i)) ∧ Aside0 (PE w wr gl #[.int .i64 a0_0, .int .i64 a0_1, .int .i64 a0_2, .int .i64 a0_3, .string a0_4, .string a0_5, .bool a0_6, .slice A0_7 l0_7.length c0_7, .slice A0_8 l0_8.length c0_8] gp xs ts vN vT)) (fun v40 _ => l0_8.length - (intOf v40).toNat)
    case atStart => exact ⟨0, 0, [a0_0, a0_1, a0_2, a0_3, (oneI a0_6), (l0_7.length : Int)], [a0_4, a0_5] ++ l0_7, _, _, rfl, ⟨rfl⟩, ⟨Nat.zero_le _⟩, ⟨by simp [flagsOf]⟩, ⟨by simp [pairsOf]⟩, HP0⟩
    case round =>
     clear hcz_8
     obtain ⟨i, x, xs, ts, vN, vT, rfl, hx, hi, hxs, hts, HP⟩ := hrel
     clear HP0
     have hxi := hx.out
     have hile := hi.out
     by_cases hlt : i < l0_8.length
     ·have c1 : decide (x < (l0_8.length : Int)) = true := decide_eq_true (by omega)
      have p118 : 0 ≤ x := by omega
      have q118 : x < (l0_8.length : Int) := by omega
      have hrd : rd_T50 l0_8 x = l0_8[i] := by rw [hxi]; exact rdT_get hlt
      obtain ⟨ad, e118, hx0, hx1, hx2⟩ := at_T50 HR8.out x p118 q118
      cases e118
      rw [hrd] at hx0 hx1 hx2
      replace hx0 := (HP.out.bel.cell (World.block_lt_of_cell? w _ hx0)).trans hx0
      replace hx1 := (HP.out.bel.cell (World.block_lt_of_cell? w _ hx1)).trans hx1
      replace hx2 := (HP.out.bel.cell (World.block_lt_of_cell? w _ hx2)).trans hx2
      have HXS := Aside0.mk (show [a0_0, a0_1, a0_2, a0_3, (oneI a0_6), (l0_7.length : Int)] ++ flagsOf (l0_8.take (i + 1)) = xs ++ [oneI l0_8[i].f2] from by rw [hxs.out, flags_step hlt, ← List.append_assoc])
      have HTS := Aside0.mk (show ([a0_4, a0_5] ++ l0_7) ++ pairsOf (l0_8.take (i + 1)) = ts ++ [l0_8[i].f0, l0_8[i].f1] from by rw [hts.out, pairs_step hlt, ← List.append_assoc])
      have HXL : Aside0 (xs.length ≤ 1000010) := ⟨by rw [hxs.out]; simp [flagsOf]; omega⟩
      have HTL : Aside0 (ts.length ≤ 3000010) := ⟨by rw [hts.out]; simp [pairs_len]; omega⟩
      have HI := Aside0.mk (show x + 1 = ((i + 1 : Nat) : Int) from by omega)
      have HW : Aside0 (wrap64 (x + 1) = x + 1) := ⟨wrap_id (by omega) (by omega)⟩
      have HLT := Aside0.mk hlt
      obtain ⟨t0, ht0⟩ : ∃ t, t = l0_8[i].f0 := ⟨_, rfl⟩
      obtain ⟨t1, ht1⟩ : ∃ t, t = l0_8[i].f1 := ⟨_, rfl⟩
      obtain ⟨bq, hbq⟩ : ∃ b, b = l0_8[i].f2 := ⟨_, rfl⟩
      rw [← ht0] at hx0 HTS
      rw [← ht1] at hx1 HTS
      rw [← hbq] at hx2 HXS
      replace p118 := eq_true p118
      replace q118 := eq_true q118
      clear ht0 ht1 hbq hrd hxi hile hlt
      obtain ⟨AN, cN, eN⟩ := Kd.R_slice HP.out.ns
      subst eN
      obtain ⟨AT, cT, eT⟩ := Kd.R_slice HP.out.ts
      subst eT
      have HP1 := Aside0.mk (HP.out.drew)
      go_wp2_with (first | ((with_reducible refine gate_dst (N := 7) rfl ?_); refine box_event ?hg (N := 7) ?hd (cs := #[.string (⟨#[]⟩ : ByteArray), .string (⟨#[]⟩ : ByteArray), .bool false]) (t := 50) ?hr ?_; (case hd => rfl); (case hg => rfl); (case hr => first | (go_simp; done) | (go_simp; rfl)); intro g7 hg w7 hbox hb; have HP7 := Aside0.mk (HP.out.below hb); have B7 := Aside0.mk hbox; have G7 : Aside0 (w.heap.size ≤ g7) := ⟨by rw [hg]; exact HP.out.bel.size⟩; replace hx0 := (hb.cell (World.block_lt_of_cell? _ _ hx0)).trans hx0; replace hx1 := (hb.cell (World.block_lt_of_cell? _ _ hx1)).trans hx1; replace hx2 := (hb.cell (World.block_lt_of_cell? _ _ hx2)).trans hx2; clear hg hb hbox HP; have hz0 : w7.cell? ⟨g7, 0, none⟩ = some (.string ⟨#[]⟩) := (blk_cell B7.out 0).trans rfl; have hz1 : w7.cell? ⟨g7, 1, none⟩ = some (.string ⟨#[]⟩) := (blk_cell B7.out 1).trans rfl; have hz2 : w7.cell? ⟨g7, 2, none⟩ = some (.bool false) := (blk_cell B7.out 2).trans rfl; have hzf0 := blk_frozen B7.out 0; have hzf1 := blk_frozen B7.out 1; have hzf2 := blk_frozen B7.out 2))
      have H7 := Aside0.mk (show (((w7.setCell ⟨g7, 0, none⟩ (.string t0)).setCell ⟨g7, 1, none⟩ (.string t1)).setCell ⟨g7, 2, none⟩ (.bool bq)).drew.heap[g7]? = some (.cells #[.string t0, .string t1, .bool bq] 50 (0, 0)) from blk_drew (blk_set (blk_set (blk_set B7.out 0 (.string t0)) 1 (.string t1)) 2 (.bool bq)))
      have HPs := Aside0.mk ((((HP7.out.set B7.out G7.out 0 (.string t0)).set (blk_set B7.out 0 _) G7.out 1 (.string t1)).set (blk_set (blk_set B7.out 0 _) 1 _) G7.out 2 (.bool bq)).drew)
      have HL := Aside0.mk HPs.out.bl
      have HPB := Aside0.mk HPs.out.bp
      have FN := Aside0.mk HPs.out.ns
      have FT := Aside0.mk HPs.out.ts
      have HB := Aside0.mk HPs.out.bel
      have HG := Aside0.mk HPs.out.gep
      clear HPs HP7 B7 G7 hz0 hz1 hz2 hzf0 hzf1 hzf2 hx0 hx1 hx2
      refine wp_region_noPanic ?_
      refine rt_begin (S := (fun W => W.heap[gp]? = some (.cells #[.slice AN xs.length cN, .slice AT ts.length cT] 48 (0, 0)) ∧ W.heap[g7]? = some (.cells #[.string t0, .string t1, .bool bq] 50 (0, 0)))) (s := 16) (by kernel_rfl) ?_
      refine AnyT.taken (i := 0) (v := ?v244) rfl (by kernel_rfl) (by kernel_rfl) (by kernel_rfl) (by kernel_rfl) (fun _ _ _ h => h) (Or.inl ⟨by rfl, ?y244⟩) ?s244 ?_
      case y244 =>
       intro wSW hSW
       (have y0 : wSW.cell? ⟨gp, 0, none⟩ = some (.slice AN xs.length cN) := (blk_cell hSW.1 0).trans rfl; have y1 : wSW.cell? ⟨gp, 1, none⟩ = some (.slice AT ts.length cT) := (blk_cell hSW.1 1).trans rfl; have y2 : wSW.cell? ⟨g7, 0, none⟩ = some (.string t0) := (blk_cell hSW.2 0).trans rfl; have y3 : wSW.cell? ⟨g7, 1, none⟩ = some (.string t1) := (blk_cell hSW.2 1).trans rfl; have y4 : wSW.cell? ⟨g7, 2, none⟩ = some (.bool bq) := (blk_cell hSW.2 2).trans rfl; go_simp)
       all_goals with_reducible rfl
      case s244 => exact ⟨HPB.out, H7.out⟩
      try simp only [Act.put, List.setIfInBounds_toArray, List.set_cons_zero, List.set_cons_succ]
      refine AnyT.taken (i := 1) (v := ?v245) rfl (by kernel_rfl) (by kernel_rfl) (by kernel_rfl) (by kernel_rfl) (fun _ _ _ h => h) (Or.inl ⟨by rfl, ?y245⟩) ?s245 ?_
      case y245 =>
       intro wSW hSW
       (have y0 : wSW.cell? ⟨gp, 0, none⟩ = some (.slice AN xs.length cN) := (blk_cell hSW.1 0).trans rfl; have y1 : wSW.cell? ⟨gp, 1, none⟩ = some (.slice AT ts.length cT) := (blk_cell hSW.1 1).trans rfl; have y2 : wSW.cell? ⟨g7, 0, none⟩ = some (.string t0) := (blk_cell hSW.2 0).trans rfl; have y3 : wSW.cell? ⟨g7, 1, none⟩ = some (.string t1) := (blk_cell hSW.2 1).trans rfl; have y4 : wSW.cell? ⟨g7, 2, none⟩ = some (.bool bq) := (blk_cell hSW.2 2).trans rfl; go_simp)
       all_goals with_reducible rfl
      case s245 => exact ⟨HPB.out, H7.out⟩
      try simp only [Act.put, List.setIfInBounds_toArray, List.set_cons_zero, List.set_cons_succ]
      refine AnyT.taken (i := 2) (v := ?v246) rfl (by kernel_rfl) (by kernel_rfl) (by kernel_rfl) (by kernel_rfl) (fun _ _ _ h => h) (Or.inl ⟨by rfl, ?y246⟩) ?s246 ?_
      case y246 =>
       intro wSW hSW
       (have y0 : wSW.cell? ⟨gp, 0, none⟩ = some (.slice AN xs.length cN) := (blk_cell hSW.1 0).trans rfl; have y1 : wSW.cell? ⟨gp, 1, none⟩ = some (.slice AT ts.length cT) := (blk_cell hSW.1 1).trans rfl; have y2 : wSW.cell? ⟨g7, 0, none⟩ = some (.string t0) := (blk_cell hSW.2 0).trans rfl; have y3 : wSW.cell? ⟨g7, 1, none⟩ = some (.string t1) := (blk_cell hSW.2 1).trans rfl; have y4 : wSW.cell? ⟨g7, 2, none⟩ = some (.bool bq) := (blk_cell hSW.2 2).trans rfl; go_simp)
       all_goals with_reducible rfl
      case s246 => exact ⟨HPB.out, H7.out⟩
      try simp only [Act.put, List.setIfInBounds_toArray, List.set_cons_zero, List.set_cons_succ]
      refine AnyT.taken (i := 3) (v := ?v247) rfl (by kernel_rfl) (by kernel_rfl) (by kernel_rfl) (by kernel_rfl) (fun _ _ _ h => h) (Or.inl ⟨by rfl, ?y247⟩) ?s247 ?_
      case y247 =>
       intro wSW hSW
       (have y0 : wSW.cell? ⟨gp, 0, none⟩ = some (.slice AN xs.length cN) := (blk_cell hSW.1 0).trans rfl; have y1 : wSW.cell? ⟨gp, 1, none⟩ = some (.slice AT ts.length cT) := (blk_cell hSW.1 1).trans rfl; have y2 : wSW.cell? ⟨g7, 0, none⟩ = some (.string t0) := (blk_cell hSW.2 0).trans rfl; have y3 : wSW.cell? ⟨g7, 1, none⟩ = some (.string t1) := (blk_cell hSW.2 1).trans rfl; have y4 : wSW.cell? ⟨g7, 2, none⟩ = some (.bool bq) := (blk_cell hSW.2 2).trans rfl; go_simp)
       all_goals with_reducible rfl
      case s247 => exact ⟨HPB.out, H7.out⟩
      try simp only [Act.put, List.setIfInBounds_toArray, List.set_cons_zero, List.set_cons_succ]
      refine AnyT.taken (i := 7) (v := ?v248) rfl (by kernel_rfl) (by kernel_rfl) (by kernel_rfl) (by kernel_rfl) (fun _ _ _ h => h) (Or.inl ⟨by rfl, ?y248⟩) ?s248 ?_
      case y248 =>
       intro wSW hSW
       (have y0 : wSW.cell? ⟨gp, 0, none⟩ = some (.slice AN xs.length cN) := (blk_cell hSW.1 0).trans rfl; have y1 : wSW.cell? ⟨gp, 1, none⟩ = some (.slice AT ts.length cT) := (blk_cell hSW.1 1).trans rfl; have y2 : wSW.cell? ⟨g7, 0, none⟩ = some (.string t0) := (blk_cell hSW.2 0).trans rfl; have y3 : wSW.cell? ⟨g7, 1, none⟩ = some (.string t1) := (blk_cell hSW.2 1).trans rfl; have y4 : wSW.cell? ⟨g7, 2, none⟩ = some (.bool bq) := (blk_cell hSW.2 2).trans rfl; go_simp)
       all_goals with_reducible rfl
      case s248 => exact ⟨HPB.out, H7.out⟩
      try simp only [Act.put, List.setIfInBounds_toArray, List.set_cons_zero, List.set_cons_succ]
      refine AnyT.taken (i := 8) (v := ?v249) rfl (by kernel_rfl) (by kernel_rfl) (by kernel_rfl) (by kernel_rfl) (fun _ _ _ h => h) (Or.inl ⟨by rfl, ?y249⟩) ?s249 ?_
      case y249 =>
       intro wSW hSW
       (have y0 : wSW.cell? ⟨gp, 0, none⟩ = some (.slice AN xs.length cN) := (blk_cell hSW.1 0).trans rfl; have y1 : wSW.cell? ⟨gp, 1, none⟩ = some (.slice AT ts.length cT) := (blk_cell hSW.1 1).trans rfl; have y2 : wSW.cell? ⟨g7, 0, none⟩ = some (.string t0) := (blk_cell hSW.2 0).trans rfl; have y3 : wSW.cell? ⟨g7, 1, none⟩ = some (.string t1) := (blk_cell hSW.2 1).trans rfl; have y4 : wSW.cell? ⟨g7, 2, none⟩ = some (.bool bq) := (blk_cell hSW.2 2).trans rfl; go_simp)
       all_goals with_reducible rfl
      case s249 => exact ⟨HPB.out, H7.out⟩
      try simp only [Act.put, List.setIfInBounds_toArray, List.set_cons_zero, List.set_cons_succ]
      refine AnyT.taken (i := 9) (v := ?v250) rfl (by kernel_rfl) (by kernel_rfl) (by kernel_rfl) (by kernel_rfl) (fun _ _ _ h => h) (Or.inl ⟨by rfl, ?y250⟩) ?s250 ?_
      case y250 =>
       intro wSW hSW
       (have y0 : wSW.cell? ⟨gp, 0, none⟩ = some (.slice AN xs.length cN) := (blk_cell hSW.1 0).trans rfl; have y1 : wSW.cell? ⟨gp, 1, none⟩ = some (.slice AT ts.length cT) := (blk_cell hSW.1 1).trans rfl; have y2 : wSW.cell? ⟨g7, 0, none⟩ = some (.string t0) := (blk_cell hSW.2 0).trans rfl; have y3 : wSW.cell? ⟨g7, 1, none⟩ = some (.string t1) := (blk_cell hSW.2 1).trans rfl; have y4 : wSW.cell? ⟨g7, 2, none⟩ = some (.bool bq) := (blk_cell hSW.2 2).trans rfl; go_simp)
       all_goals with_reducible rfl
      case s250 => exact ⟨HPB.out, H7.out⟩
      try simp only [Act.put, List.setIfInBounds_toArray, List.set_cons_zero, List.set_cons_succ]
      refine AnyT.taken (i := 10) (v := ?v251) rfl (by kernel_rfl) (by kernel_rfl) (by kernel_rfl) (by kernel_rfl) (fun _ _ _ h => h) (Or.inl ⟨by rfl, ?y251⟩) ?s251 ?_
      case y251 =>
       intro wSW hSW
       (have y0 : wSW.cell? ⟨gp, 0, none⟩ = some (.slice AN xs.length cN) := (blk_cell hSW.1 0).trans rfl; have y1 : wSW.cell? ⟨gp, 1, none⟩ = some (.slice AT ts.length cT) := (blk_cell hSW.1 1).trans rfl; have y2 : wSW.cell? ⟨g7, 0, none⟩ = some (.string t0) := (blk_cell hSW.2 0).trans rfl; have y3 : wSW.cell? ⟨g7, 1, none⟩ = some (.string t1) := (blk_cell hSW.2 1).trans rfl; have y4 : wSW.cell? ⟨g7, 2, none⟩ = some (.bool bq) := (blk_cell hSW.2 2).trans rfl; go_simp)
       all_goals with_reducible rfl
      case s251 => exact ⟨HPB.out, H7.out⟩
      try simp only [Act.put, List.setIfInBounds_toArray, List.set_cons_zero, List.set_cons_succ]
      refine AnyT.taken (i := 11) (v := ?v252) rfl (by kernel_rfl) (by kernel_rfl) (by kernel_rfl) (by kernel_rfl) (fun _ _ _ h => h) (Or.inl ⟨by rfl, ?y252⟩) ?s252 ?_
      case y252 =>
       intro wSW hSW
       (have y0 : wSW.cell? ⟨gp, 0, none⟩ = some (.slice AN xs.length cN) := (blk_cell hSW.1 0).trans rfl; have y1 : wSW.cell? ⟨gp, 1, none⟩ = some (.slice AT ts.length cT) := (blk_cell hSW.1 1).trans rfl; have y2 : wSW.cell? ⟨g7, 0, none⟩ = some (.string t0) := (blk_cell hSW.2 0).trans rfl; have y3 : wSW.cell? ⟨g7, 1, none⟩ = some (.string t1) := (blk_cell hSW.2 1).trans rfl; have y4 : wSW.cell? ⟨g7, 2, none⟩ = some (.bool bq) := (blk_cell hSW.2 2).trans rfl; go_simp)
       all_goals with_reducible rfl
      case s252 => exact ⟨HPB.out, H7.out⟩
      try simp only [Act.put, List.setIfInBounds_toArray, List.set_cons_zero, List.set_cons_succ]
      refine AnyT.taken (i := 12) (v := ?v253) rfl (by kernel_rfl) (by kernel_rfl) (by kernel_rfl) (by kernel_rfl) (fun _ _ _ h => h) (Or.inl ⟨by rfl, ?y253⟩) ?s253 ?_
      case y253 =>
       intro wSW hSW
       (have y0 : wSW.cell? ⟨gp, 0, none⟩ = some (.slice AN xs.length cN) := (blk_cell hSW.1 0).trans rfl; have y1 : wSW.cell? ⟨gp, 1, none⟩ = some (.slice AT ts.length cT) := (blk_cell hSW.1 1).trans rfl; have y2 : wSW.cell? ⟨g7, 0, none⟩ = some (.string t0) := (blk_cell hSW.2 0).trans rfl; have y3 : wSW.cell? ⟨g7, 1, none⟩ = some (.string t1) := (blk_cell hSW.2 1).trans rfl; have y4 : wSW.cell? ⟨g7, 2, none⟩ = some (.bool bq) := (blk_cell hSW.2 2).trans rfl; go_simp)
       all_goals with_reducible rfl
      case s253 => exact ⟨HPB.out, H7.out⟩
      try simp only [Act.put, List.setIfInBounds_toArray, List.set_cons_zero, List.set_cons_succ]
      refine AnyT.ready (rs := [4, 13]) (by kernel_rfl) (by simp) (AllT.step rfl (fun K hK => ?b25404) (AllT.step rfl (fun K hK => ?b25413) AllT.nil))
      case b25404 =>
       (refine goes_ Try.func20 (by kernel_rfl) rfl #[.bool bq] (by rfl) rfl rfl (by (try simp only [List.map_toArray, List.map_cons, List.map_nil]); first | done | rfl) ?_; refine (one_calls bq _).mono ?_; rintro e w9 ⟨rfl, hb⟩; refine ⟨_, rfl, ?_⟩; (try replace FA := Aside0.mk (Kd.R_below FA.out hb)); (try replace FL := Aside0.mk (Kd.R_below FL.out hb)); replace FN := Aside0.mk (Kd.R_below FN.out hb); replace FT := Aside0.mk (Kd.R_below FT.out hb); replace HPB := Aside0.mk (blk_below HPB.out hb); replace H7 := Aside0.mk (blk_below H7.out hb); replace HL := Aside0.mk (blk_below HL.out hb); replace HB := Aside0.mk (below_step HB.out hb); clear hb)
       refine hK.out _ _ ?_ ?_
       ·intro _; exact ⟨HPB.out, H7.out⟩
       clear hK K
       try simp only [Act.put, List.setIfInBounds_toArray, List.set_cons_zero, List.set_cons_succ]
       refine AnyT.ready (rs := [5, 13]) (by kernel_rfl) (by simp) (AllT.step rfl (fun K hK => ?b25605) (AllT.step rfl (fun K hK => ?b25613) AllT.nil))
       case b25605 =>
        (refine Kd.R_lit_step (Kd.int .i64) (w0 := w) w.heap.size 3 (by rfl) (N := 49) (by rfl) (xs := [(oneI bq)]) (inner := [.int .i64 (oneI bq)]) (ok := fun _ => True) (okp := fun _ => True) ?hr (reps_ints _ _ _ [(oneI bq)]) (fun _ h => h) trivial HB.out HB.out.size (by simp) ?_; (case hr => first | (go_simp; done) | (go_simp; rfl)); intro vx w9 ho hb hg hat; (try replace FA := Aside0.mk (Kd.R_grown FA.out hg (fun _ _ => by simp))); (try replace FL := Aside0.mk (Kd.R_grown FL.out hg (fun _ _ => by simp))); replace FN := Aside0.mk (Kd.R_grown FN.out hg (fun _ _ => by simp)); replace FT := Aside0.mk (Kd.R_grown FT.out hg (fun _ _ => by simp)); replace HPB := Aside0.mk (blk_grown HPB.out hg (by simp)); replace H7 := Aside0.mk (blk_grown H7.out hg (by simp)); replace HL := Aside0.mk (blk_grown HL.out hg (by simp)); replace HB := Aside0.mk hb; obtain ⟨A49, c49, e9⟩ := Kd.R_slice ho; subst e9; have FA := Aside0.mk ho; clear ho hb hg hat)
        refine hK.out _ _ ?_ ?_
        ·intro _; exact ⟨HPB.out, H7.out⟩
        clear hK K
        try simp only [Act.put, List.setIfInBounds_toArray, List.set_cons_zero, List.set_cons_succ]
        refine AnyT.ready (rs := [6, 13]) (by kernel_rfl) (by simp) (AllT.step rfl (fun K hK => ?b25806) (AllT.step rfl (fun K hK => ?b25813) AllT.nil))
        case b25806 =>
         (refine Kd.R_append_rows_step (Kd.int .i64) (w0 := w) w.heap.size (by rfl) (.tmp 45) (.tmp 49) 46 3 (.int .i64 0) 8 (by rfl) Try.underlying46 info3 rfl (by decide) (by omega) (.slice AN xs.length cN) xs [(oneI bq)] _ _ _ (fun _ => True) (fun _ => False) (by rfl) (by rfl) FN.out (Kd.R_reads' FA.out).2.2 (fun _ _ h => h) (fun _ h => h.elim) (fun _ _ => trivial) HB.out HB.out.size (by have h1 := HXL.out; have h2 := HTL.out; simp only [List.length_cons, List.length_nil]; omega) ?_; intro vx w9 ho hb hg hat; (try replace FT := Aside0.mk (Kd.R_over FT.out FN.out (by decide) hg)); (try replace FL := Aside0.mk (Kd.R_over FL.out FN.out (by decide) hg)); replace HPB := Aside0.mk (blk_grown HPB.out hg (Kd.R_ne FN.out HPB.out (by decide))); replace H7 := Aside0.mk (blk_grown H7.out hg (Kd.R_ne FN.out H7.out (by decide))); replace HL := Aside0.mk (blk_grown HL.out hg (Kd.R_ne FN.out HL.out (by decide))); replace HB := Aside0.mk hb; obtain ⟨A50, c50, e9⟩ := Kd.R_slice ho; simp only [List.length_append, List.length_cons, List.length_nil, Nat.zero_add, Nat.reduceAdd] at e9; subst e9; replace FN := Aside0.mk ho; clear ho hb hg hat FA)
         refine hK.out _ _ ?_ ?_
         ·intro _; exact ⟨HPB.out, H7.out⟩
         clear hK K
         try simp only [Act.put, List.setIfInBounds_toArray, List.set_cons_zero, List.set_cons_succ]
         refine AnyT.taken (i := 15) (v := ?v260) rfl (by kernel_rfl) (by kernel_rfl) (by kernel_rfl) (by kernel_rfl) (fun _ _ _ h => h) (Or.inl ⟨by rfl, ?y260⟩) ?s260 ?_
         case y260 =>
          intro wSW hSW
          (have y0 : wSW.cell? ⟨gp, 0, none⟩ = some (.slice AN xs.length cN) := (blk_cell hSW.1 0).trans rfl; have y1 : wSW.cell? ⟨gp, 1, none⟩ = some (.slice AT ts.length cT) := (blk_cell hSW.1 1).trans rfl; have y2 : wSW.cell? ⟨g7, 0, none⟩ = some (.string t0) := (blk_cell hSW.2 0).trans rfl; have y3 : wSW.cell? ⟨g7, 1, none⟩ = some (.string t1) := (blk_cell hSW.2 1).trans rfl; have y4 : wSW.cell? ⟨g7, 2, none⟩ = some (.bool bq) := (blk_cell hSW.2 2).trans rfl; go_simp)
          all_goals with_reducible rfl
         case s260 => exact ⟨HPB.out, H7.out⟩
         try simp only [Act.put, List.setIfInBounds_toArray, List.set_cons_zero, List.set_cons_succ]
         refine AnyT.ready (rs := [13]) (by kernel_rfl) (by simp) (AllT.step rfl (fun K hK => ?b26113) AllT.nil)
         case b26113 =>
          (refine Kd.R_lit_step Kd.string (w0 := w) w.heap.size 9 (by rfl) (N := 57) (by rfl) (xs := [t0, t1]) (inner := [.string t0, .string t1]) (ok := fun _ => True) (okp := fun _ => True) ?hr (reps_texts _ _ _ [t0, t1]) (fun _ h => h) trivial HB.out HB.out.size (by simp) ?_; (case hr => first | (go_simp; done) | (go_simp; rfl)); intro vx w9 ho hb hg hat; (try replace FA := Aside0.mk (Kd.R_grown FA.out hg (fun _ _ => by simp))); (try replace FL := Aside0.mk (Kd.R_grown FL.out hg (fun _ _ => by simp))); replace FN := Aside0.mk (Kd.R_grown FN.out hg (fun _ _ => by simp)); replace FT := Aside0.mk (Kd.R_grown FT.out hg (fun _ _ => by simp)); replace HPB := Aside0.mk (blk_grown HPB.out hg (by simp)); replace H7 := Aside0.mk (blk_grown H7.out hg (by simp)); replace HL := Aside0.mk (blk_grown HL.out hg (by simp)); replace HB := Aside0.mk hb; obtain ⟨A57, c57, e9⟩ := Kd.R_slice ho; subst e9; have FL := Aside0.mk ho; clear ho hb hg hat)
          refine hK.out _ _ ?_ ?_
          ·intro _; exact ⟨HPB.out, H7.out⟩
          clear hK K
          try simp only [Act.put, List.setIfInBounds_toArray, List.set_cons_zero, List.set_cons_succ]
          refine AnyT.ready (rs := [14]) (by kernel_rfl) (by simp) (AllT.step rfl (fun K hK => ?b26314) AllT.nil)
          case b26314 =>
           (refine Kd.R_append_rows_step Kd.string (w0 := w) w.heap.size (by rfl) (.tmp 52) (.tmp 57) 22 9 (.string ⟨#[]⟩) 16 (by rfl) Try.underlying22 info9 rfl (by decide) (by omega) (.slice AT ts.length cT) ts [t0, t1] _ _ _ (fun _ => True) (fun _ => False) (by rfl) (by rfl) FT.out (Kd.R_reads' FL.out).2.2 (fun _ _ h => h) (fun _ h => h.elim) (fun _ _ => trivial) HB.out HB.out.size (by have h1 := HXL.out; have h2 := HTL.out; simp only [List.length_cons, List.length_nil]; omega) ?_; intro vx w9 ho hb hg hat; (try replace FN := Aside0.mk (Kd.R_over FN.out FT.out (by decide) hg)); replace HPB := Aside0.mk (blk_grown HPB.out hg (Kd.R_ne FT.out HPB.out (by decide))); replace H7 := Aside0.mk (blk_grown H7.out hg (Kd.R_ne FT.out H7.out (by decide))); replace HL := Aside0.mk (blk_grown HL.out hg (Kd.R_ne FT.out HL.out (by decide))); replace HB := Aside0.mk hb; obtain ⟨A58, c58, e9⟩ := Kd.R_slice ho; simp only [List.length_append, List.length_cons, List.length_nil, Nat.zero_add, Nat.reduceAdd] at e9; subst e9; replace FT := Aside0.mk ho; clear ho hb hg hat FL)
           refine hK.out _ _ ?_ ?_
           ·intro _; exact ⟨HPB.out, H7.out⟩
           clear hK K
           try simp only [Act.put, List.setIfInBounds_toArray, List.set_cons_zero, List.set_cons_succ]
           refine AnyT.ready (rs := [16]) (by kernel_rfl) (by simp) (AllT.step rfl (fun K hK => ?b26516) AllT.nil)
           case b26516 =>
            (have hs0 : w9.cell? ⟨gp, 0, none⟩ = some (.slice AN xs.length cN) := (blk_cell HPB.out 0).trans rfl; have hf0 := blk_frozen HPB.out 0; go_simp)
            refine hK.out _ _ ?_ ?_
            ·exact past (by kernel_rfl)
            clear hK K
            try simp only [Act.put, List.setIfInBounds_toArray, List.set_cons_zero, List.set_cons_succ]
            refine AnyT.ready (rs := [17]) (by kernel_rfl) (by simp) (AllT.step rfl (fun K hK => ?b26717) AllT.nil)
            case b26717 =>
             go_simp
             refine hK.out _ _ ?_ ?_
             ·exact past (by kernel_rfl)
             clear hK K
             try simp only [Act.put, List.setIfInBounds_toArray, List.set_cons_zero, List.set_cons_succ]
             refine AnyT.ready (rs := [18]) (by kernel_rfl) (by simp) (AllT.step rfl (fun K hK => ?b26918) AllT.nil)
             case b26918 =>
              (have hs1 : (w9.setCell ⟨gp, 0, none⟩ (.slice A50 (xs.length + 1) c50)).cell? ⟨gp, 1, none⟩ = some (.slice AT ts.length cT) := (blk_cell (blk_set HPB.out 0 (.slice A50 (xs.length + 1) c50)) 1).trans rfl; have hf1 := blk_frozen (blk_set HPB.out 0 (.slice A50 (xs.length + 1) c50)) 1; go_simp)
              refine hK.out _ _ ?_ ?_
              ·exact past (by kernel_rfl)
              clear hK K
              try simp only [Act.put, List.setIfInBounds_toArray, List.set_cons_zero, List.set_cons_succ]
              refine AnyT.done (by kernel_rfl) ?_ _
              refine NoPanic.normal ?_
              (have HE := Aside0.mk (PE.of HL.out HB.out FN.out FT.out HPB.out HG.out); have hm := Aside0.mk (round_less hx.out HLT.out); clear FN FT HPB HB H7 HL HG; go_wp2; rw [HW.out]; exact ⟨⟨i + 1, x + 1, xs ++ [(oneI bq)], ts ++ [t0, t1], _, _, rfl, HI, ⟨HLT.out⟩, ⟨HXS.out.symm⟩, ⟨HTS.out.symm⟩, HE⟩, hm.out⟩)
        case b25813 =>
         (refine Kd.R_lit_step Kd.string (w0 := w) w.heap.size 9 (by rfl) (N := 57) (by rfl) (xs := [t0, t1]) (inner := [.string t0, .string t1]) (ok := fun _ => True) (okp := fun _ => True) ?hr (reps_texts _ _ _ [t0, t1]) (fun _ h => h) trivial HB.out HB.out.size (by simp) ?_; (case hr => first | (go_simp; done) | (go_simp; rfl)); intro vx w9 ho hb hg hat; (try replace FA := Aside0.mk (Kd.R_grown FA.out hg (fun _ _ => by simp))); (try replace FL := Aside0.mk (Kd.R_grown FL.out hg (fun _ _ => by simp))); replace FN := Aside0.mk (Kd.R_grown FN.out hg (fun _ _ => by simp)); replace FT := Aside0.mk (Kd.R_grown FT.out hg (fun _ _ => by simp)); replace HPB := Aside0.mk (blk_grown HPB.out hg (by simp)); replace H7 := Aside0.mk (blk_grown H7.out hg (by simp)); replace HL := Aside0.mk (blk_grown HL.out hg (by simp)); replace HB := Aside0.mk hb; obtain ⟨A57, c57, e9⟩ := Kd.R_slice ho; subst e9; have FL := Aside0.mk ho; clear ho hb hg hat)
         refine hK.out _ _ ?_ ?_
         ·intro _; exact ⟨HPB.out, H7.out⟩
         clear hK K
         try simp only [Act.put, List.setIfInBounds_toArray, List.set_cons_zero, List.set_cons_succ]
         refine AnyT.ready (rs := [6]) (by kernel_rfl) (by simp) (AllT.step rfl (fun K hK => ?b27306) AllT.nil)
         case b27306 =>
          (refine Kd.R_append_rows_step (Kd.int .i64) (w0 := w) w.heap.size (by rfl) (.tmp 45) (.tmp 49) 46 3 (.int .i64 0) 8 (by rfl) Try.underlying46 info3 rfl (by decide) (by omega) (.slice AN xs.length cN) xs [(oneI bq)] _ _ _ (fun _ => True) (fun _ => False) (by rfl) (by rfl) FN.out (Kd.R_reads' FA.out).2.2 (fun _ _ h => h) (fun _ h => h.elim) (fun _ _ => trivial) HB.out HB.out.size (by have h1 := HXL.out; have h2 := HTL.out; simp only [List.length_cons, List.length_nil]; omega) ?_; intro vx w9 ho hb hg hat; (try replace FT := Aside0.mk (Kd.R_over FT.out FN.out (by decide) hg)); (try replace FL := Aside0.mk (Kd.R_over FL.out FN.out (by decide) hg)); replace HPB := Aside0.mk (blk_grown HPB.out hg (Kd.R_ne FN.out HPB.out (by decide))); replace H7 := Aside0.mk (blk_grown H7.out hg (Kd.R_ne FN.out H7.out (by decide))); replace HL := Aside0.mk (blk_grown HL.out hg (Kd.R_ne FN.out HL.out (by decide))); replace HB := Aside0.mk hb; obtain ⟨A50, c50, e9⟩ := Kd.R_slice ho; simp only [List.length_append, List.length_cons, List.length_nil, Nat.zero_add, Nat.reduceAdd] at e9; subst e9; replace FN := Aside0.mk ho; clear ho hb hg hat FA)
          refine hK.out _ _ ?_ ?_
          ·intro _; exact ⟨HPB.out, H7.out⟩
          clear hK K
          try simp only [Act.put, List.setIfInBounds_toArray, List.set_cons_zero, List.set_cons_succ]
          refine AnyT.taken (i := 15) (v := ?v275) rfl (by kernel_rfl) (by kernel_rfl) (by kernel_rfl) (by kernel_rfl) (fun _ _ _ h => h) (Or.inl ⟨by rfl, ?y275⟩) ?s275 ?_
          case y275 =>
           intro wSW hSW
           (have y0 : wSW.cell? ⟨gp, 0, none⟩ = some (.slice AN xs.length cN) := (blk_cell hSW.1 0).trans rfl; have y1 : wSW.cell? ⟨gp, 1, none⟩ = some (.slice AT ts.length cT) := (blk_cell hSW.1 1).trans rfl; have y2 : wSW.cell? ⟨g7, 0, none⟩ = some (.string t0) := (blk_cell hSW.2 0).trans rfl; have y3 : wSW.cell? ⟨g7, 1, none⟩ = some (.string t1) := (blk_cell hSW.2 1).trans rfl; have y4 : wSW.cell? ⟨g7, 2, none⟩ = some (.bool bq) := (blk_cell hSW.2 2).trans rfl; go_simp)
           all_goals with_reducible rfl
          case s275 => exact ⟨HPB.out, H7.out⟩
          try simp only [Act.put, List.setIfInBounds_toArray, List.set_cons_zero, List.set_cons_succ]
          refine AnyT.ready (rs := [14]) (by kernel_rfl) (by simp) (AllT.step rfl (fun K hK => ?b27614) AllT.nil)
          case b27614 =>
           (refine Kd.R_append_rows_step Kd.string (w0 := w) w.heap.size (by rfl) (.tmp 52) (.tmp 57) 22 9 (.string ⟨#[]⟩) 16 (by rfl) Try.underlying22 info9 rfl (by decide) (by omega) (.slice AT ts.length cT) ts [t0, t1] _ _ _ (fun _ => True) (fun _ => False) (by rfl) (by rfl) FT.out (Kd.R_reads' FL.out).2.2 (fun _ _ h => h) (fun _ h => h.elim) (fun _ _ => trivial) HB.out HB.out.size (by have h1 := HXL.out; have h2 := HTL.out; simp only [List.length_cons, List.length_nil]; omega) ?_; intro vx w9 ho hb hg hat; (try replace FN := Aside0.mk (Kd.R_over FN.out FT.out (by decide) hg)); replace HPB := Aside0.mk (blk_grown HPB.out hg (Kd.R_ne FT.out HPB.out (by decide))); replace H7 := Aside0.mk (blk_grown H7.out hg (Kd.R_ne FT.out H7.out (by decide))); replace HL := Aside0.mk (blk_grown HL.out hg (Kd.R_ne FT.out HL.out (by decide))); replace HB := Aside0.mk hb; obtain ⟨A58, c58, e9⟩ := Kd.R_slice ho; simp only [List.length_append, List.length_cons, List.length_nil, Nat.zero_add, Nat.reduceAdd] at e9; subst e9; replace FT := Aside0.mk ho; clear ho hb hg hat FL)
           refine hK.out _ _ ?_ ?_
           ·intro _; exact ⟨HPB.out, H7.out⟩
           clear hK K
           try simp only [Act.put, List.setIfInBounds_toArray, List.set_cons_zero, List.set_cons_succ]
           refine AnyT.ready (rs := [16]) (by kernel_rfl) (by simp) (AllT.step rfl (fun K hK => ?b27816) AllT.nil)
           case b27816 =>
            (have hs0 : w9.cell? ⟨gp, 0, none⟩ = some (.slice AN xs.length cN) := (blk_cell HPB.out 0).trans rfl; have hf0 := blk_frozen HPB.out 0; go_simp)
            refine hK.out _ _ ?_ ?_
            ·exact past (by kernel_rfl)
            clear hK K
            try simp only [Act.put, List.setIfInBounds_toArray, List.set_cons_zero, List.set_cons_succ]
            refine AnyT.ready (rs := [17]) (by kernel_rfl) (by simp) (AllT.step rfl (fun K hK => ?b28017) AllT.nil)
            case b28017 =>
             go_simp
             refine hK.out _ _ ?_ ?_
             ·exact past (by kernel_rfl)
             clear hK K
             try simp only [Act.put, List.setIfInBounds_toArray, List.set_cons_zero, List.set_cons_succ]
             refine AnyT.ready (rs := [18]) (by kernel_rfl) (by simp) (AllT.step rfl (fun K hK => ?b28218) AllT.nil)
             case b28218 =>
              (have hs1 : (w9.setCell ⟨gp, 0, none⟩ (.slice A50 (xs.length + 1) c50)).cell? ⟨gp, 1, none⟩ = some (.slice AT ts.length cT) := (blk_cell (blk_set HPB.out 0 (.slice A50 (xs.length + 1) c50)) 1).trans rfl; have hf1 := blk_frozen (blk_set HPB.out 0 (.slice A50 (xs.length + 1) c50)) 1; go_simp)
              refine hK.out _ _ ?_ ?_
              ·exact past (by kernel_rfl)
              clear hK K
              try simp only [Act.put, List.setIfInBounds_toArray, List.set_cons_zero, List.set_cons_succ]
              refine AnyT.done (by kernel_rfl) ?_ _
              refine NoPanic.normal ?_
              (have HE := Aside0.mk (PE.of HL.out HB.out FN.out FT.out HPB.out HG.out); have hm := Aside0.mk (round_less hx.out HLT.out); clear FN FT HPB HB H7 HL HG; go_wp2; rw [HW.out]; exact ⟨⟨i + 1, x + 1, xs ++ [(oneI bq)], ts ++ [t0, t1], _, _, rfl, HI, ⟨HLT.out⟩, ⟨HXS.out.symm⟩, ⟨HTS.out.symm⟩, HE⟩, hm.out⟩)
       case b25613 =>
        (refine Kd.R_lit_step Kd.string (w0 := w) w.heap.size 9 (by rfl) (N := 57) (by rfl) (xs := [t0, t1]) (inner := [.string t0, .string t1]) (ok := fun _ => True) (okp := fun _ => True) ?hr (reps_texts _ _ _ [t0, t1]) (fun _ h => h) trivial HB.out HB.out.size (by simp) ?_; (case hr => first | (go_simp; done) | (go_simp; rfl)); intro vx w9 ho hb hg hat; (try replace FA := Aside0.mk (Kd.R_grown FA.out hg (fun _ _ => by simp))); (try replace FL := Aside0.mk (Kd.R_grown FL.out hg (fun _ _ => by simp))); replace FN := Aside0.mk (Kd.R_grown FN.out hg (fun _ _ => by simp)); replace FT := Aside0.mk (Kd.R_grown FT.out hg (fun _ _ => by simp)); replace HPB := Aside0.mk (blk_grown HPB.out hg (by simp)); replace H7 := Aside0.mk (blk_grown H7.out hg (by simp)); replace HL := Aside0.mk (blk_grown HL.out hg (by simp)); replace HB := Aside0.mk hb; obtain ⟨A57, c57, e9⟩ := Kd.R_slice ho; subst e9; have FL := Aside0.mk ho; clear ho hb hg hat)
        refine hK.out _ _ ?_ ?_
        ·intro _; exact ⟨HPB.out, H7.out⟩
        clear hK K
        try simp only [Act.put, List.setIfInBounds_toArray, List.set_cons_zero, List.set_cons_succ]
        refine AnyT.ready (rs := [5]) (by kernel_rfl) (by simp) (AllT.step rfl (fun K hK => ?b28605) AllT.nil)
        case b28605 =>
         (refine Kd.R_lit_step (Kd.int .i64) (w0 := w) w.heap.size 3 (by rfl) (N := 49) (by rfl) (xs := [(oneI bq)]) (inner := [.int .i64 (oneI bq)]) (ok := fun _ => True) (okp := fun _ => True) ?hr (reps_ints _ _ _ [(oneI bq)]) (fun _ h => h) trivial HB.out HB.out.size (by simp) ?_; (case hr => first | (go_simp; done) | (go_simp; rfl)); intro vx w9 ho hb hg hat; (try replace FA := Aside0.mk (Kd.R_grown FA.out hg (fun _ _ => by simp))); (try replace FL := Aside0.mk (Kd.R_grown FL.out hg (fun _ _ => by simp))); replace FN := Aside0.mk (Kd.R_grown FN.out hg (fun _ _ => by simp)); replace FT := Aside0.mk (Kd.R_grown FT.out hg (fun _ _ => by simp)); replace HPB := Aside0.mk (blk_grown HPB.out hg (by simp)); replace H7 := Aside0.mk (blk_grown H7.out hg (by simp)); replace HL := Aside0.mk (blk_grown HL.out hg (by simp)); replace HB := Aside0.mk hb; obtain ⟨A49, c49, e9⟩ := Kd.R_slice ho; subst e9; have FA := Aside0.mk ho; clear ho hb hg hat)
         refine hK.out _ _ ?_ ?_
         ·intro _; exact ⟨HPB.out, H7.out⟩
         clear hK K
         try simp only [Act.put, List.setIfInBounds_toArray, List.set_cons_zero, List.set_cons_succ]
         refine AnyT.ready (rs := [6]) (by kernel_rfl) (by simp) (AllT.step rfl (fun K hK => ?b28806) AllT.nil)
         case b28806 =>
          (refine Kd.R_append_rows_step (Kd.int .i64) (w0 := w) w.heap.size (by rfl) (.tmp 45) (.tmp 49) 46 3 (.int .i64 0) 8 (by rfl) Try.underlying46 info3 rfl (by decide) (by omega) (.slice AN xs.length cN) xs [(oneI bq)] _ _ _ (fun _ => True) (fun _ => False) (by rfl) (by rfl) FN.out (Kd.R_reads' FA.out).2.2 (fun _ _ h => h) (fun _ h => h.elim) (fun _ _ => trivial) HB.out HB.out.size (by have h1 := HXL.out; have h2 := HTL.out; simp only [List.length_cons, List.length_nil]; omega) ?_; intro vx w9 ho hb hg hat; (try replace FT := Aside0.mk (Kd.R_over FT.out FN.out (by decide) hg)); (try replace FL := Aside0.mk (Kd.R_over FL.out FN.out (by decide) hg)); replace HPB := Aside0.mk (blk_grown HPB.out hg (Kd.R_ne FN.out HPB.out (by decide))); replace H7 := Aside0.mk (blk_grown H7.out hg (Kd.R_ne FN.out H7.out (by decide))); replace HL := Aside0.mk (blk_grown HL.out hg (Kd.R_ne FN.out HL.out (by decide))); replace HB := Aside0.mk hb; obtain ⟨A50, c50, e9⟩ := Kd.R_slice ho; simp only [List.length_append, List.length_cons, List.length_nil, Nat.zero_add, Nat.reduceAdd] at e9; subst e9; replace FN := Aside0.mk ho; clear ho hb hg hat FA)
          refine hK.out _ _ ?_ ?_
          ·intro _; exact ⟨HPB.out, H7.out⟩
          clear hK K
          try simp only [Act.put, List.setIfInBounds_toArray, List.set_cons_zero, List.set_cons_succ]
          refine AnyT.taken (i := 15) (v := ?v290) rfl (by kernel_rfl) (by kernel_rfl) (by kernel_rfl) (by kernel_rfl) (fun _ _ _ h => h) (Or.inl ⟨by rfl, ?y290⟩) ?s290 ?_
          case y290 =>
           intro wSW hSW
           (have y0 : wSW.cell? ⟨gp, 0, none⟩ = some (.slice AN xs.length cN) := (blk_cell hSW.1 0).trans rfl; have y1 : wSW.cell? ⟨gp, 1, none⟩ = some (.slice AT ts.length cT) := (blk_cell hSW.1 1).trans rfl; have y2 : wSW.cell? ⟨g7, 0, none⟩ = some (.string t0) := (blk_cell hSW.2 0).trans rfl; have y3 : wSW.cell? ⟨g7, 1, none⟩ = some (.string t1) := (blk_cell hSW.2 1).trans rfl; have y4 : wSW.cell? ⟨g7, 2, none⟩ = some (.bool bq) := (blk_cell hSW.2 2).trans rfl; go_simp)
           all_goals with_reducible rfl
          case s290 => exact ⟨HPB.out, H7.out⟩
          try simp only [Act.put, List.setIfInBounds_toArray, List.set_cons_zero, List.set_cons_succ]
          refine AnyT.ready (rs := [14]) (by kernel_rfl) (by simp) (AllT.step rfl (fun K hK => ?b29114) AllT.nil)
          case b29114 =>
           (refine Kd.R_append_rows_step Kd.string (w0 := w) w.heap.size (by rfl) (.tmp 52) (.tmp 57) 22 9 (.string ⟨#[]⟩) 16 (by rfl) Try.underlying22 info9 rfl (by decide) (by omega) (.slice AT ts.length cT) ts [t0, t1] _ _ _ (fun _ => True) (fun _ => False) (by rfl) (by rfl) FT.out (Kd.R_reads' FL.out).2.2 (fun _ _ h => h) (fun _ h => h.elim) (fun _ _ => trivial) HB.out HB.out.size (by have h1 := HXL.out; have h2 := HTL.out; simp only [List.length_cons, List.length_nil]; omega) ?_; intro vx w9 ho hb hg hat; (try replace FN := Aside0.mk (Kd.R_over FN.out FT.out (by decide) hg)); replace HPB := Aside0.mk (blk_grown HPB.out hg (Kd.R_ne FT.out HPB.out (by decide))); replace H7 := Aside0.mk (blk_grown H7.out hg (Kd.R_ne FT.out H7.out (by decide))); replace HL := Aside0.mk (blk_grown HL.out hg (Kd.R_ne FT.out HL.out (by decide))); replace HB := Aside0.mk hb; obtain ⟨A58, c58, e9⟩ := Kd.R_slice ho; simp only [List.length_append, List.length_cons, List.length_nil, Nat.zero_add, Nat.reduceAdd] at e9; subst e9; replace FT := Aside0.mk ho; clear ho hb hg hat FL)
           refine hK.out _ _ ?_ ?_
           ·intro _; exact ⟨HPB.out, H7.out⟩
           clear hK K
           try simp only [Act.put, List.setIfInBounds_toArray, List.set_cons_zero, List.set_cons_succ]
           refine AnyT.ready (rs := [16]) (by kernel_rfl) (by simp) (AllT.step rfl (fun K hK => ?b29316) AllT.nil)
           case b29316 =>
            (have hs0 : w9.cell? ⟨gp, 0, none⟩ = some (.slice AN xs.length cN) := (blk_cell HPB.out 0).trans rfl; have hf0 := blk_frozen HPB.out 0; go_simp)
            refine hK.out _ _ ?_ ?_
            ·exact past (by kernel_rfl)
            clear hK K
            try simp only [Act.put, List.setIfInBounds_toArray, List.set_cons_zero, List.set_cons_succ]
            refine AnyT.ready (rs := [17]) (by kernel_rfl) (by simp) (AllT.step rfl (fun K hK => ?b29517) AllT.nil)
            case b29517 =>
             go_simp
             refine hK.out _ _ ?_ ?_
             ·exact past (by kernel_rfl)
             clear hK K
             try simp only [Act.put, List.setIfInBounds_toArray, List.set_cons_zero, List.set_cons_succ]
             refine AnyT.ready (rs := [18]) (by kernel_rfl) (by simp) (AllT.step rfl (fun K hK => ?b29718) AllT.nil)
             case b29718 =>
              (have hs1 : (w9.setCell ⟨gp, 0, none⟩ (.slice A50 (xs.length + 1) c50)).cell? ⟨gp, 1, none⟩ = some (.slice AT ts.length cT) := (blk_cell (blk_set HPB.out 0 (.slice A50 (xs.length + 1) c50)) 1).trans rfl; have hf1 := blk_frozen (blk_set HPB.out 0 (.slice A50 (xs.length + 1) c50)) 1; go_simp)
              refine hK.out _ _ ?_ ?_
              ·exact past (by kernel_rfl)
              clear hK K
              try simp only [Act.put, List.setIfInBounds_toArray, List.set_cons_zero, List.set_cons_succ]
              refine AnyT.done (by kernel_rfl) ?_ _
              refine NoPanic.normal ?_
              (have HE := Aside0.mk (PE.of HL.out HB.out FN.out FT.out HPB.out HG.out); have hm := Aside0.mk (round_less hx.out HLT.out); clear FN FT HPB HB H7 HL HG; go_wp2; rw [HW.out]; exact ⟨⟨i + 1, x + 1, xs ++ [(oneI bq)], ts ++ [t0, t1], _, _, rfl, HI, ⟨HLT.out⟩, ⟨HXS.out.symm⟩, ⟨HTS.out.symm⟩, HE⟩, hm.out⟩)
      case b25413 =>
       (refine Kd.R_lit_step Kd.string (w0 := w) w.heap.size 9 (by rfl) (N := 57) (by rfl) (xs := [t0, t1]) (inner := [.string t0, .string t1]) (ok := fun _ => True) (okp := fun _ => True) ?hr (reps_texts _ _ _ [t0, t1]) (fun _ h => h) trivial HB.out HB.out.size (by simp) ?_; (case hr => first | (go_simp; done) | (go_simp; rfl)); intro vx w9 ho hb hg hat; (try replace FA := Aside0.mk (Kd.R_grown FA.out hg (fun _ _ => by simp))); (try replace FL := Aside0.mk (Kd.R_grown FL.out hg (fun _ _ => by simp))); replace FN := Aside0.mk (Kd.R_grown FN.out hg (fun _ _ => by simp)); replace FT := Aside0.mk (Kd.R_grown FT.out hg (fun _ _ => by simp)); replace HPB := Aside0.mk (blk_grown HPB.out hg (by simp)); replace H7 := Aside0.mk (blk_grown H7.out hg (by simp)); replace HL := Aside0.mk (blk_grown HL.out hg (by simp)); replace HB := Aside0.mk hb; obtain ⟨A57, c57, e9⟩ := Kd.R_slice ho; subst e9; have FL := Aside0.mk ho; clear ho hb hg hat)
       refine hK.out _ _ ?_ ?_
       ·intro _; exact ⟨HPB.out, H7.out⟩
       clear hK K
       try simp only [Act.put, List.setIfInBounds_toArray, List.set_cons_zero, List.set_cons_succ]
       refine AnyT.ready (rs := [4]) (by kernel_rfl) (by simp) (AllT.step rfl (fun K hK => ?b30104) AllT.nil)
       case b30104 =>
        (refine goes_ Try.func20 (by kernel_rfl) rfl #[.bool bq] (by rfl) rfl rfl (by (try simp only [List.map_toArray, List.map_cons, List.map_nil]); first | done | rfl) ?_; refine (one_calls bq _).mono ?_; rintro e w9 ⟨rfl, hb⟩; refine ⟨_, rfl, ?_⟩; (try replace FA := Aside0.mk (Kd.R_below FA.out hb)); (try replace FL := Aside0.mk (Kd.R_below FL.out hb)); replace FN := Aside0.mk (Kd.R_below FN.out hb); replace FT := Aside0.mk (Kd.R_below FT.out hb); replace HPB := Aside0.mk (blk_below HPB.out hb); replace H7 := Aside0.mk (blk_below H7.out hb); replace HL := Aside0.mk (blk_below HL.out hb); replace HB := Aside0.mk (below_step HB.out hb); clear hb)
        refine hK.out _ _ ?_ ?_
        ·intro _; exact ⟨HPB.out, H7.out⟩
        clear hK K
        try simp only [Act.put, List.setIfInBounds_toArray, List.set_cons_zero, List.set_cons_succ]
        refine AnyT.ready (rs := [5]) (by kernel_rfl) (by simp) (AllT.step rfl (fun K hK => ?b30305) AllT.nil)
        case b30305 =>
         (refine Kd.R_lit_step (Kd.int .i64) (w0 := w) w.heap.size 3 (by rfl) (N := 49) (by rfl) (xs := [(oneI bq)]) (inner := [.int .i64 (oneI bq)]) (ok := fun _ => True) (okp := fun _ => True) ?hr (reps_ints _ _ _ [(oneI bq)]) (fun _ h => h) trivial HB.out HB.out.size (by simp) ?_; (case hr => first | (go_simp; done) | (go_simp; rfl)); intro vx w9 ho hb hg hat; (try replace FA := Aside0.mk (Kd.R_grown FA.out hg (fun _ _ => by simp))); (try replace FL := Aside0.mk (Kd.R_grown FL.out hg (fun _ _ => by simp))); replace FN := Aside0.mk (Kd.R_grown FN.out hg (fun _ _ => by simp)); replace FT := Aside0.mk (Kd.R_grown FT.out hg (fun _ _ => by simp)); replace HPB := Aside0.mk (blk_grown HPB.out hg (by simp)); replace H7 := Aside0.mk (blk_grown H7.out hg (by simp)); replace HL := Aside0.mk (blk_grown HL.out hg (by simp)); replace HB := Aside0.mk hb; obtain ⟨A49, c49, e9⟩ := Kd.R_slice ho; subst e9; have FA := Aside0.mk ho; clear ho hb hg hat)
         refine hK.out _ _ ?_ ?_
         ·intro _; exact ⟨HPB.out, H7.out⟩
         clear hK K
         try simp only [Act.put, List.setIfInBounds_toArray, List.set_cons_zero, List.set_cons_succ]
         refine AnyT.ready (rs := [6]) (by kernel_rfl) (by simp) (AllT.step rfl (fun K hK => ?b30506) AllT.nil)
         case b30506 =>
          (refine Kd.R_append_rows_step (Kd.int .i64) (w0 := w) w.heap.size (by rfl) (.tmp 45) (.tmp 49) 46 3 (.int .i64 0) 8 (by rfl) Try.underlying46 info3 rfl (by decide) (by omega) (.slice AN xs.length cN) xs [(oneI bq)] _ _ _ (fun _ => True) (fun _ => False) (by rfl) (by rfl) FN.out (Kd.R_reads' FA.out).2.2 (fun _ _ h => h) (fun _ h => h.elim) (fun _ _ => trivial) HB.out HB.out.size (by have h1 := HXL.out; have h2 := HTL.out; simp only [List.length_cons, List.length_nil]; omega) ?_; intro vx w9 ho hb hg hat; (try replace FT := Aside0.mk (Kd.R_over FT.out FN.out (by decide) hg)); (try replace FL := Aside0.mk (Kd.R_over FL.out FN.out (by decide) hg)); replace HPB := Aside0.mk (blk_grown HPB.out hg (Kd.R_ne FN.out HPB.out (by decide))); replace H7 := Aside0.mk (blk_grown H7.out hg (Kd.R_ne FN.out H7.out (by decide))); replace HL := Aside0.mk (blk_grown HL.out hg (Kd.R_ne FN.out HL.out (by decide))); replace HB := Aside0.mk hb; obtain ⟨A50, c50, e9⟩ := Kd.R_slice ho; simp only [List.length_append, List.length_cons, List.length_nil, Nat.zero_add, Nat.reduceAdd] at e9; subst e9; replace FN := Aside0.mk ho; clear ho hb hg hat FA)
          refine hK.out _ _ ?_ ?_
          ·intro _; exact ⟨HPB.out, H7.out⟩
          clear hK K
          try simp only [Act.put, List.setIfInBounds_toArray, List.set_cons_zero, List.set_cons_succ]
          refine AnyT.taken (i := 15) (v := ?v307) rfl (by kernel_rfl) (by kernel_rfl) (by kernel_rfl) (by kernel_rfl) (fun _ _ _ h => h) (Or.inl ⟨by rfl, ?y307⟩) ?s307 ?_
          case y307 =>
           intro wSW hSW
           (have y0 : wSW.cell? ⟨gp, 0, none⟩ = some (.slice AN xs.length cN) := (blk_cell hSW.1 0).trans rfl; have y1 : wSW.cell? ⟨gp, 1, none⟩ = some (.slice AT ts.length cT) := (blk_cell hSW.1 1).trans rfl; have y2 : wSW.cell? ⟨g7, 0, none⟩ = some (.string t0) := (blk_cell hSW.2 0).trans rfl; have y3 : wSW.cell? ⟨g7, 1, none⟩ = some (.string t1) := (blk_cell hSW.2 1).trans rfl; have y4 : wSW.cell? ⟨g7, 2, none⟩ = some (.bool bq) := (blk_cell hSW.2 2).trans rfl; go_simp)
           all_goals with_reducible rfl
          case s307 => exact ⟨HPB.out, H7.out⟩
          try simp only [Act.put, List.setIfInBounds_toArray, List.set_cons_zero, List.set_cons_succ]
          refine AnyT.ready (rs := [14]) (by kernel_rfl) (by simp) (AllT.step rfl (fun K hK => ?b30814) AllT.nil)
          case b30814 =>
           (refine Kd.R_append_rows_step Kd.string (w0 := w) w.heap.size (by rfl) (.tmp 52) (.tmp 57) 22 9 (.string ⟨#[]⟩) 16 (by rfl) Try.underlying22 info9 rfl (by decide) (by omega) (.slice AT ts.length cT) ts [t0, t1] _ _ _ (fun _ => True) (fun _ => False) (by rfl) (by rfl) FT.out (Kd.R_reads' FL.out).2.2 (fun _ _ h => h) (fun _ h => h.elim) (fun _ _ => trivial) HB.out HB.out.size (by have h1 := HXL.out; have h2 := HTL.out; simp only [List.length_cons, List.length_nil]; omega) ?_; intro vx w9 ho hb hg hat; (try replace FN := Aside0.mk (Kd.R_over FN.out FT.out (by decide) hg)); replace HPB := Aside0.mk (blk_grown HPB.out hg (Kd.R_ne FT.out HPB.out (by decide))); replace H7 := Aside0.mk (blk_grown H7.out hg (Kd.R_ne FT.out H7.out (by decide))); replace HL := Aside0.mk (blk_grown HL.out hg (Kd.R_ne FT.out HL.out (by decide))); replace HB := Aside0.mk hb; obtain ⟨A58, c58, e9⟩ := Kd.R_slice ho; simp only [List.length_append, List.length_cons, List.length_nil, Nat.zero_add, Nat.reduceAdd] at e9; subst e9; replace FT := Aside0.mk ho; clear ho hb hg hat FL)
           refine hK.out _ _ ?_ ?_
           ·intro _; exact ⟨HPB.out, H7.out⟩
           clear hK K
           try simp only [Act.put, List.setIfInBounds_toArray, List.set_cons_zero, List.set_cons_succ]
           refine AnyT.ready (rs := [16]) (by kernel_rfl) (by simp) (AllT.step rfl (fun K hK => ?b31016) AllT.nil)
           case b31016 =>
            (have hs0 : w9.cell? ⟨gp, 0, none⟩ = some (.slice AN xs.length cN) := (blk_cell HPB.out 0).trans rfl; have hf0 := blk_frozen HPB.out 0; go_simp)
            refine hK.out _ _ ?_ ?_
            ·exact past (by kernel_rfl)
            clear hK K
            try simp only [Act.put, List.setIfInBounds_toArray, List.set_cons_zero, List.set_cons_succ]
            refine AnyT.ready (rs := [17]) (by kernel_rfl) (by simp) (AllT.step rfl (fun K hK => ?b31217) AllT.nil)
            case b31217 =>
             go_simp
             refine hK.out _ _ ?_ ?_
             ·exact past (by kernel_rfl)
             clear hK K
             try simp only [Act.put, List.setIfInBounds_toArray, List.set_cons_zero, List.set_cons_succ]
             refine AnyT.ready (rs := [18]) (by kernel_rfl) (by simp) (AllT.step rfl (fun K hK => ?b31418) AllT.nil)
             case b31418 =>
              (have hs1 : (w9.setCell ⟨gp, 0, none⟩ (.slice A50 (xs.length + 1) c50)).cell? ⟨gp, 1, none⟩ = some (.slice AT ts.length cT) := (blk_cell (blk_set HPB.out 0 (.slice A50 (xs.length + 1) c50)) 1).trans rfl; have hf1 := blk_frozen (blk_set HPB.out 0 (.slice A50 (xs.length + 1) c50)) 1; go_simp)
              refine hK.out _ _ ?_ ?_
              ·exact past (by kernel_rfl)
              clear hK K
              try simp only [Act.put, List.setIfInBounds_toArray, List.set_cons_zero, List.set_cons_succ]
              refine AnyT.done (by kernel_rfl) ?_ _
              refine NoPanic.normal ?_
              (have HE := Aside0.mk (PE.of HL.out HB.out FN.out FT.out HPB.out HG.out); have hm := Aside0.mk (round_less hx.out HLT.out); clear FN FT HPB HB H7 HL HG; go_wp2; rw [HW.out]; exact ⟨⟨i + 1, x + 1, xs ++ [(oneI bq)], ts ++ [t0, t1], _, _, rfl, HI, ⟨HLT.out⟩, ⟨HXS.out.symm⟩, ⟨HTS.out.symm⟩, HE⟩, hm.out⟩)
     ·have c1 : decide (x < (l0_8.length : Int)) = false := decide_eq_false (by omega)
      obtain rfl : i = l0_8.length := by omega
      have HC : Aside0 (pack_Encode.f k xs ts = some (r1, r2)) := ⟨by rw [hxs.out, hts.out, List.take_length]; exact HPK.out⟩
      clear HPK hxs hts hx hi hxi hile hlt
      obtain ⟨AN, cN, eN⟩ := Kd.R_slice HP.out.ns
      subst eN
      obtain ⟨AT, cT, eT⟩ := Kd.R_slice HP.out.ts
      subst eT
      have hp0 : wr.cell? ⟨gp, 0, none⟩ = some (.slice AN xs.length cN) := (blk_cell HP.out.bp 0).trans rfl
      have hp1 : wr.cell? ⟨gp, 1, none⟩ = some (.slice AT ts.length cT) := (blk_cell HP.out.bp 1).trans rfl
      go_wp2_with (go_at_call 21; refine (pack_Encode.calls k _ _ xs _ _ ts r1 r2 _ (Kd.R_reads' HP.out.ns).2.2 (Kd.R_reads' HP.out.ns).2.1 (Kd.R_reads' HP.out.ts).2.2 (Kd.R_reads' HP.out.ts).2.1 HC.out).mono ?_; rintro e w9 ⟨rfl, hb⟩; have HB9 := Aside0.mk (below_step HP.out.bel hb); clear hb)
      go_ret2
      exact ⟨rfl, HB9.out⟩
  ·rw [if_neg hl] at H
   cases H
 ·rw [if_neg c3] at H
  have c3b0 : (t == 0) = false := beq_eq_false_iff_ne.mpr c3
  have c3b1 : (t != 0) = true := bne_iff_ne.mpr c3
  simp only [Option.some.injEq, Prod.mk.injEq] at H
  obtain ⟨rfl, rfl⟩ := H
  go_enter Try.func9, Try.ntmps9
  go_wp2_with (first | ((with_reducible refine gate_dst (N := 1) rfl ?_); refine box_event ?hg (N := 1) ?hd (cs := #[.int .i64 a0_0, .int .i64 a0_1, .int .i64 a0_2, .int .i64 a0_3, .string a0_4, .string a0_5, .bool a0_6, .slice A0_7 l0_7.length c0_7, .slice A0_8 l0_8.length c0_8]) (t := 25) ?hr ?_; (case hd => rfl); (case hg => rfl); (case hr => first | (go_simp; done) | (go_simp; rfl)); intro gl hgl w1 hbox hb; have HB := Aside0.mk hb; have BL := Aside0.mk hbox; clear hgl hb hbox; have hcz_0 : w1.cell? ⟨gl, 0, none⟩ = some (.int .i64 a0_0) := (blk_cell BL.out 0).trans rfl; have hcz_1 : w1.cell? ⟨gl, 1, none⟩ = some (.int .i64 a0_1) := (blk_cell BL.out 1).trans rfl; have hcz_2 : w1.cell? ⟨gl, 2, none⟩ = some (.int .i64 a0_2) := (blk_cell BL.out 2).trans rfl; have hcz_3 : w1.cell? ⟨gl, 3, none⟩ = some (.int .i64 a0_3) := (blk_cell BL.out 3).trans rfl; have hcz_4 : w1.cell? ⟨gl, 4, none⟩ = some (.string a0_4) := (blk_cell BL.out 4).trans rfl; have hcz_5 : w1.cell? ⟨gl, 5, none⟩ = some (.string a0_5) := (blk_cell BL.out 5).trans rfl; have hcz_6 : w1.cell? ⟨gl, 6, none⟩ = some (.bool a0_6) := (blk_cell BL.out 6).trans rfl; have hcz_7 : w1.cell? ⟨gl, 7, none⟩ = some (.slice A0_7 l0_7.length c0_7) := (blk_cell BL.out 7).trans rfl; have hcz_8 : w1.cell? ⟨gl, 8, none⟩ = some (.slice A0_8 l0_8.length c0_8) := (blk_cell BL.out 8).trans rfl) | (go_at_call 11; refine (record_Check.calls a0_0 a0_1 a0_2 a0_3 a0_4 a0_5 a0_6 _ _ l0_7 _ _ l0_8 _ _ (Kd.C_below HR7.out HB.out) HC7.out (Kd.C_below HR8.out HB.out) HC8.out A2.out).mono ?_; rintro e w2 ⟨rfl, hb⟩; have HB2 := Aside0.mk (below_step HB.out hb); have BL2 := Aside0.mk (blk_below BL.out hb); clear hb))
  go_ret2
  exact ⟨rfl, HB2.out⟩
end Go.Proofs.Ytbfjbcaabijpfaa.Al

/- One function of the program comes to what its plain twin says. This text began as the kit's own print (print.py, made by cprint.sh) and was turned by split.py: it is no printed file. -/
namespace Go.Proofs.Ytbfjbcaabijpfaa.Al
open Go.RowKit Go.Proofs.YtbfjbcaabijpfaaW.PrintWords Go.Proofs.YtbfjbcaabijpfaaW.PrintLast Go.Proofs.YtbfjbcaabijpfaaW.PrintMore
attribute [local go_sem] max2_int min2_int max_two min_two max_three min_three max_four min_four   -- for this text's walks alone
set_option linter.unusedVariables false
set_option linter.unusedSimpArgs false

attribute [local go_sem high] eqA50
/-! ### corncriblaw08_works: function 14 -/
def corncriblaw08_works.f (k : Nat)  : Option (Bool) := (record_Encode.f k 2 5 9 0 (⟨#[]⟩ : ByteArray) (⟨#[]⟩ : ByteArray) false ([] : List ByteArray) ([] : List (S50))).bind fun bt242 => (if bt242.2 = 0 then (some (bt242.1.toList == ([6, 4, 10, 18, 0, 0, 0, 2, 0, 0] : List UInt8))) else (some false))
theorem corncriblaw08_works.mono : ∀ k, LeO (corncriblaw08_works.f k ) (corncriblaw08_works.f (k + 1) ) := by
 intro  k
 unfold corncriblaw08_works.f
 repeat' first
   |(with_reducible exact record_Encode.mono _ _ _ _ _ _ _ _ _ _)
   |(with_reducible exact LeO.refl _)
   |(with_reducible exact LeO.none _)
   |(with_reducible refine LeO.ite ?_ ?_)
   |(with_reducible refine LeO.bind ?_ (fun _ => ?_))
   |exact record_Encode.mono _ _ _ _ _ _ _ _ _ _
   |exact LeO.none _
   |refine LeO.ite ?_ ?_
   |refine LeO.bind ?_ (fun _ => ?_)
set_option maxHeartbeats 8000000 in
set_option maxRecDepth 100000 in
theorem corncriblaw08_works.calls (k : Nat)  (r : Bool) (w : World) (h : corncriblaw08_works.f k  = some r) :
  Calls Try.prog 14 #[] w fun e w' => e = .returned (.bool r) ∧ Below w.heap.size w w' := by
 have hu25 := Try.underlying25
 have HB := Aside0.mk (Below.refl w.heap.size w)
 have H : ((record_Encode.f k 2 5 9 0 (⟨#[]⟩ : ByteArray) (⟨#[]⟩ : ByteArray) false ([] : List ByteArray) ([] : List (S50))).bind fun bt242 => (if bt242.2 = 0 then (some (bt242.1.toList == ([6, 4, 10, 18, 0, 0, 0, 2, 0, 0] : List UInt8))) else (some false))) = some r := h
 clear h
 replace H := Option.bind_eq_some_iff.mp H
 obtain ⟨⟨t242, t243⟩, A10, H⟩ := H
 replace H : (if t243 = 0 then (some (t242.toList == ([6, 4, 10, 18, 0, 0, 0, 2, 0, 0] : List UInt8))) else (some false)) = some r := H
 have A1 := Aside0.mk A10
 clear A10
 by_cases c2 : t243 = 0
 ·rw [if_pos c2] at H
  have c2b0 : (t243 == 0) = true := beq_iff_eq.mpr c2
  have c2b1 : (t243 != 0) = false := bne_eq_false_iff_eq.mpr c2
  clear c2
  obtain rfl := Option.some.inj H
  go_enter Try.func14, Try.ntmps14
  go_wp2_with (first | ((with_reducible refine gate_callee (f := 9) rfl ?_); refine goesL_ (some 5) rfl rfl Try.func9 (by kernel_rfl) rfl #[.agg #[.int .i64 2, .int .i64 5, .int .i64 9, .int .i64 0, .string (⟨#[]⟩ : ByteArray), .string (⟨#[]⟩ : ByteArray), .bool false, .slice none 0 0, .slice none 0 0]] rfl (by (try simp only [List.map_toArray, List.map_cons, List.map_nil]); first | done | rfl | (simp only [List.length_drop, List.length_take]; rfl)) ?_; (refine (record_Encode.calls k 2 5 9 0 (⟨#[]⟩ : ByteArray) (⟨#[]⟩ : ByteArray) false _ _ ([] : List ByteArray) _ _ ([] : List (S50)) t242 t243 _ ?side1 ?side2 ?side3 ?side4 A1.out).mono ?_); (case side1 => exact Kd.C_nil _ _); (case side2 => exact Nat.le_refl _); (case side3 => exact Kd.C_nil _ _); (case side4 => exact Nat.le_refl _); rintro e w3 ⟨rfl, hb⟩; refine ⟨_, rfl, ?_⟩; have n0_ := Aside0.mk (below_step (by repeat (first | (with_reducible first | exact HB.out | apply below_alloc | apply pw_below_drewN | apply below_drew1) | exact HB.out)) hb); clear HB; have HB := n0_; clear n0_; (try clear hb); (try clear hb2); (try clear hk); (try clear hi)))
  go_ret
  exact ⟨by first | rfl | (simp [errW_none, errW_some] <;> rfl) | (simp [*, errW_none, errW_some] <;> rfl), by repeat (first | (with_reducible first | exact HB.out | apply below_alloc | apply pw_below_drewN | apply below_drew1) | exact HB.out)⟩
 ·rw [if_neg c2] at H
  have c2b0 : (t243 == 0) = false := beq_eq_false_iff_ne.mpr c2
  have c2b1 : (t243 != 0) = true := bne_iff_ne.mpr c2
  obtain rfl := Option.some.inj H
  go_enter Try.func14, Try.ntmps14
  go_wp2_with (first | ((with_reducible refine gate_callee (f := 9) rfl ?_); refine goesL_ (some 5) rfl rfl Try.func9 (by kernel_rfl) rfl #[.agg #[.int .i64 2, .int .i64 5, .int .i64 9, .int .i64 0, .string (⟨#[]⟩ : ByteArray), .string (⟨#[]⟩ : ByteArray), .bool false, .slice none 0 0, .slice none 0 0]] rfl (by (try simp only [List.map_toArray, List.map_cons, List.map_nil]); first | done | rfl | (simp only [List.length_drop, List.length_take]; rfl)) ?_; (refine (record_Encode.calls k 2 5 9 0 (⟨#[]⟩ : ByteArray) (⟨#[]⟩ : ByteArray) false _ _ ([] : List ByteArray) _ _ ([] : List (S50)) t242 t243 _ ?side1 ?side2 ?side3 ?side4 A1.out).mono ?_); (case side1 => exact Kd.C_nil _ _); (case side2 => exact Nat.le_refl _); (case side3 => exact Kd.C_nil _ _); (case side4 => exact Nat.le_refl _); rintro e w4 ⟨rfl, hb⟩; refine ⟨_, rfl, ?_⟩; have n0_ := Aside0.mk (below_step (by repeat (first | (with_reducible first | exact HB.out | apply below_alloc | apply pw_below_drewN | apply below_drew1) | exact HB.out)) hb); clear HB; have HB := n0_; clear n0_; (try clear hb); (try clear hb2); (try clear hk); (try clear hi)))
  go_ret
  exact ⟨by first | rfl | (simp [errW_none, errW_some] <;> rfl) | (simp [*, errW_none, errW_some] <;> rfl), by repeat (first | (with_reducible first | exact HB.out | apply below_alloc | apply pw_below_drewN | apply below_drew1) | exact HB.out)⟩

end Go.Proofs.Ytbfjbcaabijpfaa.Al

/- The check of letters in the reference's words: plain law. -/
namespace Go.Proofs.Ytbfjbcaabijpfaa.LetSpec
open Go.RowKit Go.Proofs.Ytbfjbcaabijpfaa.Base Go.Proofs.Ytbfjbcaabijpfaa.Al Go.Proofs.YtbfjbcaabijpfaaW.PrintWords
theorem Ev.to {α : Type} {g : Nat → Option α} {r r' : α} (h : Ev g r) (e : r = r') : Ev g r' := e ▸ h
/-- What the reference's switch gives. -/
def refV (code kind : Int) (one bare : Bool) (x6 : ByteArray) (x7 : List ByteArray) (x8 : List S50) : Int :=
 if kind = 1 then (if one = true ∧ x6.toList = [] ∧ code = 0 then 0 else 70)
 else if kind = 2 then (if one = true ∧ x6.size ≤ 2052 ∧ (x6.toList = [] ∨ code = 1) then 0 else 70)
 else if kind = 3 then (if x7.length ≤ 16 ∧ risB x7 = true ∧ wriB x8 = true ∧ x6.toList = [] ∧ code = 0 then 0 else 70)
 else if kind = 4 then (if bare = true ∧ code ≤ 1 then 0 else 70)
 else if kind = 5 ∨ kind = 6 ∨ kind = 7 then (if bare = true ∧ code = 0 then 0 else 70)
 else if kind = 8 then (if bare = true ∧ code ≤ 2 then 0 else 70)
 else 70
def oneB (x7 : List ByteArray) (x8 : List S50) : Bool := decide (x7.length = 1) && (keyB (rdOf ByteArray.empty x7 0) && decide (x8.length = 0))
def bareB (x6 : ByteArray) (x7 : List ByteArray) (x8 : List S50) : Bool := decide (x7.length = 0) && (decide (x8.length = 0) && x6.toList.isEmpty)
section
variable (x0 x1 x2 x3 x4 x5 : Int) (x6 : ByteArray) (x7 : List ByteArray) (x8 : List S50)
/-- The two checks are one. -/
theorem ref_chk : chkL x0 x1 x2 x3 x4 x5 x6 x7 x8 = if addrB x1 = true ∧ addrB x2 = true ∧ 1 ≤ x3 ∧ x3 ≤ 1125899906842623 ∧ 0 ≤ x4 ∧ x4 ≤ 1125899906842624 ∧ 0 ≤ x5 ∧ x5 ≤ 4 then refV x5 x0 (oneB x7 x8) (bareB x6 x7 x8) x6 x7 x8 else 70 := by
 unfold chkL
 by_cases h : addrB x1 = true ∧ addrB x2 = true ∧ 1 ≤ x3 ∧ x3 ≤ 1125899906842623 ∧ 0 ≤ x4 ∧ x4 ≤ 1125899906842624 ∧ 0 ≤ x5
 ·rw [if_pos h]
  obtain ⟨g0, g1, g2, g3, g4, g5, g6⟩ := h
  have e7 : ((x7.length : Int) == 0) = decide (x7.length = 0) := by by_cases h : x7.length = 0 <;> simp [h]
  have e8 : ((x8.length : Int) == 0) = decide (x8.length = 0) := by by_cases h : x8.length = 0 <;> simp [h]
  by_cases h4 : x5 ≤ 4
  ·rw [if_pos ⟨g0, g1, g2, g3, g4, g5, g6, h4⟩]
   unfold sw refV oneB bareB
   rw [e7, e8]
   by_cases n1 : x0 = 1
   ·subst n1
    simp only [if_neg (show ¬ (1 : Int) = 2 by omega), if_true, fin4]
    apply ite_congr _ (fun _ => rfl) (fun _ => rfl)
    simp only [Bool.and_eq_true, decide_eq_true_eq, List.isEmpty_iff, eq_iff_iff]
    constructor
    ·rintro ⟨a, ⟨b, c⟩, d, e⟩; exact ⟨⟨b, c, d⟩, e, by omega⟩
    ·rintro ⟨⟨b, c, d⟩, e, f⟩; exact ⟨by omega, ⟨b, c⟩, d, e⟩
   by_cases n2 : x0 = 2
   ·subst n2
    simp only [if_neg (show ¬ (2 : Int) = 1 by omega), if_true, fin4]
    apply ite_congr _ (fun _ => rfl) (fun _ => rfl)
    simp only [Bool.and_eq_true, Bool.or_eq_true, decide_eq_true_eq, List.isEmpty_iff, eq_iff_iff, beq_iff_eq]
    constructor
    ·rintro ⟨a, ⟨b, c⟩, d, e, f⟩; exact ⟨⟨b, c, d⟩, e, f⟩
    ·rintro ⟨⟨b, c, d⟩, e, f⟩; exact ⟨h4, ⟨b, c⟩, d, e, f⟩
   by_cases n3 : x0 = 3
   ·subst n3
    simp only [if_neg (show ¬ (3 : Int) = 1 by omega), if_neg (show ¬ (3 : Int) = 2 by omega), if_true, fin4]
    apply ite_congr _ (fun _ => rfl) (fun _ => rfl)
    simp only [Bool.and_eq_true, decide_eq_true_eq, List.isEmpty_iff, eq_iff_iff]
    constructor
    ·rintro ⟨a, ⟨b, c⟩, d, e⟩; exact ⟨b, c, d, e, by omega⟩
    ·rintro ⟨b, c, d, e, f⟩; exact ⟨by omega, ⟨b, c⟩, d, e⟩
   by_cases n4 : x0 = 4
   ·subst n4
    simp only [if_neg (show ¬ (4 : Int) = 1 by omega), if_neg (show ¬ (4 : Int) = 2 by omega), if_neg (show ¬ (4 : Int) = 3 by omega), if_neg (show ¬ (4 : Int) = 8 by omega), if_true, fin4]
    apply ite_congr _ (fun _ => rfl) (fun _ => rfl)
    simp only [Bool.and_eq_true, decide_eq_true_eq, List.isEmpty_iff, eq_iff_iff]
    constructor
    ·rintro ⟨a, b, c, d⟩; exact ⟨⟨b, c, d⟩, a⟩
    ·rintro ⟨⟨b, c, d⟩, a⟩; exact ⟨a, b, c, d⟩
   by_cases n8 : x0 = 8
   ·subst n8
    simp only [if_neg (show ¬ (8 : Int) = 1 by omega), if_neg (show ¬ (8 : Int) = 2 by omega), if_neg (show ¬ (8 : Int) = 3 by omega), if_neg (show ¬ (8 : Int) = 4 by omega), if_neg (show ¬ ((8 : Int) = 5 ∨ (8 : Int) = 6 ∨ (8 : Int) = 7) by omega), if_true, fin4]
    apply ite_congr _ (fun _ => rfl) (fun _ => rfl)
    simp only [Bool.and_eq_true, decide_eq_true_eq, List.isEmpty_iff, eq_iff_iff]
    constructor
    ·rintro ⟨a, b, c, d⟩; exact ⟨⟨b, c, d⟩, a⟩
    ·rintro ⟨⟨b, c, d⟩, a⟩; exact ⟨a, b, c, d⟩
   by_cases n5 : x0 = 5 ∨ x0 = 6 ∨ x0 = 7
   ·rw [if_neg n2, if_neg n1, if_neg n3, if_neg n8, if_neg n4, if_pos n5, if_neg n1, if_neg n2, if_neg n3, if_neg n4, if_pos n5]
    simp only [fin4]
    apply ite_congr _ (fun _ => rfl) (fun _ => rfl)
    simp only [Bool.and_eq_true, decide_eq_true_eq, List.isEmpty_iff, eq_iff_iff]
    constructor
    ·rintro ⟨a, b, c, d⟩; exact ⟨⟨b, c, d⟩, by omega⟩
    ·rintro ⟨⟨b, c, d⟩, a⟩; exact ⟨by omega, b, c, d⟩
   ·rw [if_neg n2, if_neg n1, if_neg n3, if_neg n8, if_neg n4, if_neg n5, if_neg n1, if_neg n2, if_neg n3, if_neg n4, if_neg n5, if_neg n8]
    rfl
  ·rw [if_neg (fun hc => h4 hc.2.2.2.2.2.2.2)]
   unfold sw
   split
   ·exact if_neg (fun hc => by omega)
   split
   ·exact if_neg (fun hc => by omega)
   split
   ·exact if_neg (fun hc => by omega)
   split
   ·exact if_neg (fun hc => by omega)
   split
   ·exact if_neg (fun hc => by omega)
   split
   ·exact if_neg (fun hc => by omega)
   ·rfl
 ·rw [if_neg h, if_neg (fun hc => h ⟨hc.1, hc.2.1, hc.2.2.1, hc.2.2.2.1, hc.2.2.2.2.1, hc.2.2.2.2.2.1, hc.2.2.2.2.2.2.1⟩)]
end
end Go.Proofs.Ytbfjbcaabijpfaa.LetSpec

/- The check of records, told kind by kind: plain law. -/
namespace Go.Proofs.Ytbfjbcaabijpfaa.RecSpec
open Go.RowKit Go.Proofs.Ytbfjbcaabijpfaa.Base Go.Proofs.Ytbfjbcaabijpfaa.LetSpec Go.Proofs.Ytbfjbcaabijpfaa.Al Go.Proofs.YtbfjbcaabijpfaaW.PrintWords
set_option linter.unusedVariables false
set_option linter.unusedSimpArgs false
theorem none_iff (l7 : List ByteArray) (l8 : List S50) : noneB l7 l8 = true ↔ l7.length = 0 ∧ l8.length = 0 := by
 unfold noneB
 simp only [beq_iff_eq]
 omega
theorem list_iff (l7 : List ByteArray) (l8 : List S50) : listB l7 l8 = true ↔ l7.length ≤ 16 ∧ risB l7 = true ∧ wriB l8 = true := by
 unfold listB
 rw [ref_chk, if_pos (by refine ⟨by decide, by decide, ?_⟩; omega)]
 unfold refV
 simp only [if_neg (show ¬ (3 : Int) = 1 by omega), if_neg (show ¬ (3 : Int) = 2 by omega), if_true, beq_iff_eq]
 have he : (⟨#[]⟩ : ByteArray).toList = [] := by rw [toList_eq]; rfl
 constructor
 ·intro h
  obtain ⟨h1, h2, h3, _⟩ := if70' h
  exact ⟨h1, h2, h3⟩
 ·rintro ⟨h1, h2, h3⟩
  exact if_pos ⟨h1, h2, h3, he, trivial⟩
where
 if70' {c : Prop} [Decidable c] (h : (if c then (0 : Int) else 70) = 0) : c := by
  by_cases hc : c
  ·exact hc
  ·rw [if_neg hc] at h; cases h
/-- No key, no text, not dead. -/
def bareT (a4 a5 : ByteArray) (a6 : Bool) : Prop := a4.toList = [] ∧ a5.toList = [] ∧ a6 = false
instance (a4 a5 : ByteArray) (a6 : Bool) : Decidable (bareT a4 a5 a6) := inferInstanceAs (Decidable (_ ∧ _ ∧ _))
def headP (a1 a2 a3 : Int) : Prop := 0 ≤ a1 ∧ a1 ≤ 1125899906842623 ∧ 0 ≤ a2 ∧ a2 ≤ 1125899906842624 ∧ 0 ≤ a3 ∧ a3 < 16
instance (a1 a2 a3 : Int) : Decidable (headP a1 a2 a3) := inferInstanceAs (Decidable (_ ∧ _ ∧ _ ∧ _ ∧ _ ∧ _))
theorem head_iff (a1 a2 a3 : Int) : headB a1 a2 a3 = true ↔ ¬ headP a1 a2 a3 := by
 unfold headB headP
 simp only [Bool.or_eq_true, decide_eq_true_eq]
 omega
/-- May it be, of its kind? -/
def okK (a0 a1 a2 a3 : Int) (a4 a5 : ByteArray) (a6 : Bool) (l7 : List ByteArray) (l8 : List S50) : Prop :=
 if a0 = 1 then (l7.length ≤ 16 ∧ risB l7 = true ∧ wriB l8 = true) ∧ 0 < a1 ∧ bareT a4 a5 a6
 else if a0 = 2 then (l7.length = 0 ∧ l8.length = 0) ∧ 0 < a1 ∧ a3 = 0 ∧ bareT a4 a5 a6
 else if a0 = 5 then (l7.length = 0 ∧ l8.length = 0) ∧ 0 < a1 ∧ 0 < a2 ∧ a3 = 0 ∧ bareT a4 a5 a6
 else if a0 = 6 then (l7.length = 0 ∧ l8.length = 0) ∧ 0 < a1 ∧ a2 = 0 ∧ a3 = 0 ∧ bareT a4 a5 a6
 else if a0 = 3 then (l7.length = 0 ∧ l8.length = 0) ∧ 0 < a2 ∧ keyB a4 = true ∧ a5.size ≤ 2052 ∧ (a6 = true → a5.toList = []) ∧ a1 = 0 ∧ a3 = 0
 else if a0 = 4 then (l7.length = 0 ∧ l8.length = 0) ∧ a1 = 0 ∧ a3 = 0 ∧ bareT a4 a5 a6
 else if a0 = 7 then (l7.length = 0 ∧ l8.length = 0) ∧ 0 < a2 ∧ a1 = 0 ∧ a3 = 0 ∧ bareT a4 a5 a6
 else False
instance (a0 a1 a2 a3 : Int) (a4 a5 : ByteArray) (a6 : Bool) (l7 : List ByteArray) (l8 : List S50) : Decidable (okK a0 a1 a2 a3 a4 a5 a6 l7 l8) := by
 unfold okK
 infer_instance
theorem nil_toList : (⟨#[]⟩ : ByteArray).toList = [] := by rw [toList_eq]; rfl
theorem neq_iff (w0 w1 w2 w3 : Int) (w4 w5 : ByteArray) (w6 : Bool) (a0 a1 a2 a3 : Int) (a4 a5 : ByteArray) (a6 : Bool) : neqR w0 w1 w2 w3 w4 w5 w6 a0 a1 a2 a3 a4 a5 a6 = true ↔ ¬ (w0 = a0 ∧ w1 = a1 ∧ w2 = a2 ∧ w3 = a3 ∧ w4.toList = a4.toList ∧ w5.toList = a5.toList ∧ w6 = a6) := by
 unfold neqR
 simp only [Bool.or_eq_true, Bool.not_eq_true', beq_eq_false_iff_ne, ne_eq]
 constructor
 ·rintro h ⟨h0, h1, h2, h3, h4, h5, h6⟩
  rcases h with h | h | h | h | h | h | h <;> exact h (by assumption)
 ·intro h
  by_cases h0 : w0 = a0
  ·by_cases h1 : w1 = a1
   ·by_cases h2 : w2 = a2
    ·by_cases h3 : w3 = a3
     ·by_cases h4 : w4.toList = a4.toList
      ·by_cases h5 : w5.toList = a5.toList
       ·exact .inr (.inr (.inr (.inr (.inr (.inr (fun h6 => h ⟨h0, h1, h2, h3, h4, h5, h6⟩))))))
       ·exact .inr (.inr (.inr (.inr (.inr (.inl h5)))))
      ·exact .inr (.inr (.inr (.inr (.inl h4))))
     ·exact .inr (.inr (.inr (.inl h3)))
    ·exact .inr (.inr (.inl h2))
   ·exact .inr (.inl h1)
  ·exact .inl h0
theorem fin_eq (b : Bool) (w0 w1 w2 w3 : Int) (w4 w5 : ByteArray) (w6 : Bool) (a0 a1 a2 a3 : Int) (a4 a5 : ByteArray) (a6 : Bool) (p : Prop) [Decidable p] (h : p ↔ b = true ∧ w0 = a0 ∧ w1 = a1 ∧ w2 = a2 ∧ w3 = a3 ∧ w4.toList = a4.toList ∧ w5.toList = a5.toList ∧ w6 = a6) : finR b w0 w1 w2 w3 w4 w5 w6 a0 a1 a2 a3 a4 a5 a6 = if p then 0 else 80 := by
 unfold finR
 by_cases hb : b = true
 ·rw [if_pos hb]
  by_cases hp : p
  ·rw [if_pos hp, if_neg (fun hc => (neq_iff ..).1 hc (h.1 hp).2)]
  ·rw [if_neg hp, if_pos ((neq_iff ..).2 (fun hc => hp (h.2 ⟨hb, hc⟩)))]
 ·rw [if_neg hb, if_neg (fun hp => hb (h.1 hp).1)]
theorem bare_iff (a4 a5 : ByteArray) (a6 : Bool) : bareT a4 a5 a6 ↔ (⟨#[]⟩ : ByteArray).toList = a4.toList ∧ (⟨#[]⟩ : ByteArray).toList = a5.toList ∧ false = a6 := by
 unfold bareT
 rw [nil_toList]
 constructor
 ·rintro ⟨h1, h2, h3⟩; exact ⟨h1.symm, h2.symm, h3.symm⟩
 ·rintro ⟨h1, h2, h3⟩; exact ⟨h1.symm, h2.symm, h3.symm⟩
theorem chkK_eq (a0 a1 a2 a3 : Int) (a4 a5 : ByteArray) (a6 : Bool) (l7 : List ByteArray) (l8 : List S50) : chkK a0 a1 a2 a3 a4 a5 a6 l7 l8 = if okK a0 a1 a2 a3 a4 a5 a6 l7 l8 then 0 else 80 := by
 unfold chkK okK
 by_cases n1 : a0 = 1
 ·simp only [if_pos n1]
  refine fin_eq _ _ _ _ _ _ _ _ _ _ _ _ _ _ _ _ ?_
  rw [Bool.and_eq_true, list_iff, decide_eq_true_eq, bare_iff]
  constructor
  ·rintro ⟨h1, h2, h3⟩; exact ⟨⟨h1, h2⟩, rfl, rfl, rfl, rfl, h3⟩
  ·rintro ⟨⟨h1, h2⟩, _, _, _, _, h3⟩; exact ⟨h1, h2, h3⟩
 simp only [if_neg n1]
 by_cases n2 : a0 = 2
 ·simp only [if_pos n2]
  refine fin_eq _ _ _ _ _ _ _ _ _ _ _ _ _ _ _ _ ?_
  rw [Bool.and_eq_true, none_iff, decide_eq_true_eq, bare_iff]
  constructor
  ·rintro ⟨h1, h2, h3, h4⟩; exact ⟨⟨h1, h2⟩, rfl, rfl, rfl, h3.symm, h4⟩
  ·rintro ⟨⟨h1, h2⟩, _, _, _, h3, h4⟩; exact ⟨h1, h2, h3.symm, h4⟩
 simp only [if_neg n2]
 by_cases n5 : a0 = 5
 ·simp only [if_pos n5]
  refine fin_eq _ _ _ _ _ _ _ _ _ _ _ _ _ _ _ _ ?_
  rw [Bool.and_eq_true, Bool.and_eq_true, none_iff, decide_eq_true_eq, decide_eq_true_eq, bare_iff]
  constructor
  ·rintro ⟨h1, h2, h2', h3, h4⟩; exact ⟨⟨h1, h2, h2'⟩, rfl, rfl, rfl, h3.symm, h4⟩
  ·rintro ⟨⟨h1, h2, h2'⟩, _, _, _, h3, h4⟩; exact ⟨h1, h2, h2', h3.symm, h4⟩
 simp only [if_neg n5]
 by_cases n6 : a0 = 6
 ·simp only [if_pos n6]
  refine fin_eq _ _ _ _ _ _ _ _ _ _ _ _ _ _ _ _ ?_
  rw [Bool.and_eq_true, none_iff, decide_eq_true_eq, bare_iff]
  constructor
  ·rintro ⟨h1, h2, h3, h4, h5⟩; exact ⟨⟨h1, h2⟩, rfl, rfl, h3.symm, h4.symm, h5⟩
  ·rintro ⟨⟨h1, h2⟩, _, _, h3, h4, h5⟩; exact ⟨h1, h2, h3.symm, h4.symm, h5⟩
 simp only [if_neg n6]
 by_cases n3 : a0 = 3
 ·simp only [if_pos n3]
  refine fin_eq _ _ _ _ _ _ _ _ _ _ _ _ _ _ _ _ ?_
  unfold verB
  simp only [Bool.and_eq_true, none_iff, decide_eq_true_eq, Bool.not_eq_true', Bool.and_eq_false_iff, Bool.not_eq_false', List.isEmpty_iff]
  constructor
  ·rintro ⟨h1, h2, h3, h4, h5, h6, h7⟩
   refine ⟨⟨h1, h2, h3, h4, ?_⟩, trivial, h6.symm, trivial, h7.symm, trivial, trivial, trivial⟩
   by_cases hd : a6 = true
   ·exact .inr (h5 hd)
   ·exact .inl (by simpa using hd)
  ·rintro ⟨⟨h1, h2, h3, h4, h5⟩, _, h6, _, h7, _⟩
   exact ⟨h1, h2, h3, h4, fun hd => h5.elim (fun h => by rw [h] at hd; cases hd) id, h6.symm, h7.symm⟩
 simp only [if_neg n3]
 by_cases n4 : a0 = 4
 ·simp only [if_pos n4]
  refine fin_eq _ _ _ _ _ _ _ _ _ _ _ _ _ _ _ _ ?_
  rw [none_iff, bare_iff]
  constructor
  ·rintro ⟨h1, h2, h3, h4⟩; exact ⟨h1, rfl, h2.symm, rfl, h3.symm, h4⟩
  ·rintro ⟨h1, _, h2, _, h3, h4⟩; exact ⟨h1, h2.symm, h3.symm, h4⟩
 simp only [if_neg n4]
 by_cases n7 : a0 = 7
 ·simp only [if_pos n7]
  refine fin_eq _ _ _ _ _ _ _ _ _ _ _ _ _ _ _ _ ?_
  rw [Bool.and_eq_true, none_iff, decide_eq_true_eq, bare_iff]
  constructor
  ·rintro ⟨h1, h2, h3, h4, h5⟩; exact ⟨⟨h1, h2⟩, rfl, h3.symm, rfl, h4.symm, h5⟩
  ·rintro ⟨⟨h1, h2⟩, _, h3, _, h4, h5⟩; exact ⟨h1, h2, h3.symm, h4.symm, h5⟩
 simp only [if_neg n7]
 rfl
def okR (a0 a1 a2 a3 : Int) (a4 a5 : ByteArray) (a6 : Bool) (l7 : List ByteArray) (l8 : List S50) : Prop := headP a1 a2 a3 ∧ okK a0 a1 a2 a3 a4 a5 a6 l7 l8
instance (a0 a1 a2 a3 : Int) (a4 a5 : ByteArray) (a6 : Bool) (l7 : List ByteArray) (l8 : List S50) : Decidable (okR a0 a1 a2 a3 a4 a5 a6 l7 l8) := inferInstanceAs (Decidable (_ ∧ _))
theorem chkR_eq (a0 a1 a2 a3 : Int) (a4 a5 : ByteArray) (a6 : Bool) (l7 : List ByteArray) (l8 : List S50) : chkR a0 a1 a2 a3 a4 a5 a6 l7 l8 = if okR a0 a1 a2 a3 a4 a5 a6 l7 l8 then 0 else 80 := by
 unfold chkR
 by_cases h : headP a1 a2 a3
 ·rw [if_neg (fun hc => (head_iff ..).1 hc h), chkK_eq]
  by_cases k : okK a0 a1 a2 a3 a4 a5 a6 l7 l8
  ·exact (if_pos k).trans (if_pos (show okR a0 a1 a2 a3 a4 a5 a6 l7 l8 from ⟨h, k⟩)).symm
  ·exact (if_neg k).trans (if_neg (fun hc : okR a0 a1 a2 a3 a4 a5 a6 l7 l8 => k hc.2)).symm
 ·rw [if_pos ((head_iff ..).2 h)]
  exact (if_neg (fun hc : okR a0 a1 a2 a3 a4 a5 a6 l7 l8 => h hc.1)).symm
theorem rcheck_eq (a0 a1 a2 a3 : Int) (a4 a5 : ByteArray) (a6 : Bool) (l7 : List ByteArray) (l8 : List S50) (h7 : l7.length ≤ 8796093022000) (h8 : l8.length ≤ 8796093022000) : record_Check.f a0 a1 a2 a3 a4 a5 a6 l7 l8 = some (if okR a0 a1 a2 a3 a4 a5 a6 l7 l8 then 0 else 80) := by
 unfold record_Check.f
 rw [if_pos ⟨h7, h8⟩, chkR_eq]
end Go.Proofs.Ytbfjbcaabijpfaa.RecSpec

/- Numbers as bytes, seven bits a byte, the lowest first: plain mathematics. -/
namespace Go.Proofs.Ytbfjbcaabijpfaa.PackMath
open Go.RowKit Go.Proofs.Ytbfjbcaabijpfaa.Base Go.Proofs.YtbfjbcaabijpfaaW.PrintWords

def plain (n : Nat) : List Int := if n < 128 then [(n : Int)] else ((n % 128 + 128 : Nat) : Int) :: plain (n / 128)
theorem plain_small {n : Nat} (h : n < 128) : plain n = [(n : Int)] := by rw [plain, if_pos h]
theorem plain_big {n : Nat} (h : 128 ≤ n) : plain n = ((n % 128 + 128 : Nat) : Int) :: plain (n / 128) := by rw [plain, if_neg (by omega)]
/-- A signed number as one above nothing. -/
def zig (n : Int) : Nat := if n < 0 then (-2 * (n + 1) + 1).toNat else (2 * n).toNat
def zag (x : Nat) : Int := if x % 2 = 1 then -(x / 2 : Int) - 1 else (x / 2 : Int)
theorem zag_zig (n : Int) : zag (zig n) = n := by unfold zag zig; split <;> split <;> omega
theorem zig_zag (x : Nat) : zig (zag x) = x := by unfold zag zig; split <;> split <;> omega
theorem zig_lt {n : Int} (h0 : -4611686018427387904 ≤ n) (h1 : n ≤ 4611686018427387903) : zig n < 9223372036854775808 := by unfold zig; split <;> omega
theorem zag_range {x : Nat} (h : x < 9223372036854775808) : -4611686018427387904 ≤ zag x ∧ zag x ≤ 4611686018427387903 := by unfold zag; split <;> omega
def signed (n : Int) : List Int := plain (zig n)

theorem plain_len_le : ∀ (k n : Nat), n < 128 ^ (k + 1) → (plain n).length ≤ k + 1
 |0, n, h => by rw [plain_small (by simpa using h)]; simp
 |k + 1, n, h => by
  by_cases h1 : n < 128
  ·rw [plain_small h1]; simp
  ·rw [plain_big (by omega), List.length_cons]
   have := plain_len_le k (n / 128) (by rw [Nat.pow_succ] at h; omega)
   omega
theorem plain_len9 {n : Nat} (h : n < 9223372036854775808) : (plain n).length ≤ 9 := plain_len_le 8 n (by simpa using h)
theorem plain_pos (n : Nat) : 1 ≤ (plain n).length := by rw [plain]; split <;> simp
theorem plain_mono : ∀ (n m : Nat), n ≤ m → (plain n).length ≤ (plain m).length := by
 intro n
 induction n using Nat.strongRecOn with
 |ind n ih =>
  intro m h
  by_cases h1 : n < 128
  ·rw [plain_small h1]; exact plain_pos m
  ·rw [plain_big (by omega), plain_big (n := m) (by omega), List.length_cons, List.length_cons]
   have := ih (n / 128) (by omega) (m / 128) (Nat.div_le_div_right h)
   omega
theorem plain_range : ∀ (n : Nat), ∀ b ∈ plain n, 0 ≤ b ∧ b ≤ 255 := by
 intro n
 induction n using Nat.strongRecOn with
 |ind n ih =>
  intro b hb
  by_cases h1 : n < 128
  ·rw [plain_small h1] at hb
   simp at hb
   omega
  ·rw [plain_big (by omega)] at hb
   rcases List.mem_cons.1 hb with rfl | hb
   ·omega
   ·exact ih (n / 128) (by omega) b hb
/-- What is read: the number at the beginning of bytes. -/
theorem plain_inj_app : ∀ (n m : Nat) (r q : List Int), plain n ++ r = plain m ++ q → n = m ∧ r = q := by
 intro n
 induction n using Nat.strongRecOn with
 |ind n ih =>
  intro m r q h
  by_cases h1 : n < 128
  ·rw [plain_small h1] at h
   by_cases h2 : m < 128
   ·rw [plain_small h2] at h
    simp at h
    exact ⟨by omega, h.2⟩
   ·rw [plain_big (n := m) (by omega)] at h
    simp only [List.cons_append, List.nil_append, List.cons.injEq] at h
    omega
  ·rw [plain_big (by omega)] at h
   by_cases h2 : m < 128
   ·rw [plain_small h2] at h
    simp only [List.cons_append, List.nil_append, List.cons.injEq] at h
    omega
   ·rw [plain_big (n := m) (by omega)] at h
    simp only [List.cons_append, List.cons.injEq] at h
    obtain ⟨e1, e2⟩ := ih (n / 128) (by omega) (m / 128) r q h.2
    exact ⟨by omega, e2⟩
theorem plain_inj {n m : Nat} (h : plain n = plain m) : n = m := (plain_inj_app n m [] [] (by rw [h])).1
theorem signed_inj {n m : Int} (h : signed n = signed m) : n = m := by
 have := plain_inj h
 rw [← zag_zig n, this, zag_zig]

/-- A pack's bytes. -/
def body (nums : List Int) : List Int := (nums.map signed).flatten
def tails (texts : List ByteArray) : List Int := (texts.map fun s => plain s.size ++ bytesOf s).flatten
def enc (nums : List Int) (texts : List ByteArray) : List Int := plain nums.length ++ body nums ++ plain texts.length ++ tails texts
def okNum (n : Int) : Bool := decide (-4611686018427387904 ≤ n) && decide (n ≤ 4611686018427387903)
def okText (s : ByteArray) : Bool := decide (s.size ≤ 4096)
/-- Which packs may be. -/
def chk (nums : List Int) (texts : List ByteArray) : Int :=
 if 1024 < nums.length ∨ 1024 < texts.length then 2 else if nums.all okNum = false then 1 else if texts.all okText = false then 2 else 0
theorem okNum_iff {n : Int} : okNum n = true ↔ -4611686018427387904 ≤ n ∧ n ≤ 4611686018427387903 := by simp [okNum]
theorem okText_iff {s : ByteArray} : okText s = true ↔ s.size ≤ 4096 := by simp [okText]
theorem chk_ok {nums : List Int} {texts : List ByteArray} (h : chk nums texts = 0) : nums.length ≤ 1024 ∧ texts.length ≤ 1024 ∧ (∀ n ∈ nums, -4611686018427387904 ≤ n ∧ n ≤ 4611686018427387903) ∧ ∀ s ∈ texts, s.size ≤ 4096 := by
 unfold chk at h
 split at h
 ·omega
 split at h
 ·omega
 split at h
 ·omega
 rename_i h1 h2 h3
 refine ⟨by omega, by omega, fun n hn => ?_, fun s hs => ?_⟩
 ·have := List.all_eq_true.1 (by simpa using h2) n hn
  exact okNum_iff.1 this
 ·have := List.all_eq_true.1 (by simpa using h3) s hs
  exact okText_iff.1 this
theorem chk_of {nums : List Int} {texts : List ByteArray} (h1 : nums.length ≤ 1024) (h2 : texts.length ≤ 1024) (h3 : ∀ n ∈ nums, -4611686018427387904 ≤ n ∧ n ≤ 4611686018427387903) (h4 : ∀ s ∈ texts, s.size ≤ 4096) : chk nums texts = 0 := by
 have a1 : nums.all okNum = true := List.all_eq_true.2 fun n hn => okNum_iff.2 (h3 n hn)
 have a2 : texts.all okText = true := List.all_eq_true.2 fun s hs => okText_iff.2 (h4 s hs)
 unfold chk
 rw [if_neg (by omega), a1, a2]
 rfl
theorem body_len {nums : List Int} (h : ∀ n ∈ nums, -4611686018427387904 ≤ n ∧ n ≤ 4611686018427387903) : (body nums).length ≤ 9 * nums.length := by
 induction nums with
 |nil => simp [body]
 |cons n l ih =>
  have h0 := h n (by simp)
  have h1 := ih (fun m hm => h m (by simp [hm]))
  have h2 : (signed n).length ≤ 9 := plain_len9 (zig_lt h0.1 h0.2)
  simp only [body, List.map_cons, List.flatten_cons, List.length_append, List.length_cons] at h1 ⊢
  omega
theorem tails_len {texts : List ByteArray} (h : ∀ s ∈ texts, s.size ≤ 4096) : (tails texts).length ≤ 4105 * texts.length := by
 induction texts with
 |nil => simp [tails]
 |cons s l ih =>
  have h0 := h s (by simp)
  have h1 := ih (fun m hm => h m (by simp [hm]))
  have h2 : (plain s.size).length ≤ 9 := plain_len9 (by omega)
  simp only [tails, List.map_cons, List.flatten_cons, List.length_append, List.length_cons, bytesOf_length] at h1 ⊢
  omega
theorem enc_len {nums : List Int} {texts : List ByteArray} (h : chk nums texts = 0) : (enc nums texts).length ≤ 4300000 := by
 obtain ⟨h1, h2, h3, h4⟩ := chk_ok h
 have a := body_len h3
 have b := tails_len h4
 have c : (plain nums.length).length ≤ 9 := plain_len9 (by omega)
 have d : (plain texts.length).length ≤ 9 := plain_len9 (by omega)
 simp only [enc, List.length_append]
 omega
end Go.Proofs.Ytbfjbcaabijpfaa.PackMath

/- What the functions of the package pack compute: the bytes of PackMath. -/
namespace Go.Proofs.Ytbfjbcaabijpfaa.PackFns
open Go.RowKit Go.Proofs.Ytbfjbcaabijpfaa.Base Go.Proofs.Ytbfjbcaabijpfaa.PackMath Go.Proofs.Ytbfjbcaabijpfaa.Al Go.Proofs.YtbfjbcaabijpfaaW.PrintWords

theorem may_eq (n : Int) : pack_may.f n = some (okNum n) := by
 unfold pack_may.f okNum
 by_cases h : n ≥ -4611686018427387904
 ·rw [if_pos h, decide_eq_true (show (-4611686018427387904 : Int) ≤ n from h)]; rfl
 ·rw [if_neg h, decide_eq_false (show ¬ (-4611686018427387904 : Int) ≤ n from h)]; rfl
theorem step_byte (n : Nat) : (((Int.tmod (n : Int) 128) % 256) + 128) % 256 = ((n % 128 + 128 : Nat) : Int) := by
 rw [Int.tmod_eq_emod_of_nonneg (by omega)]; omega
theorem step_rest (n : Nat) : Int.tdiv (n : Int) 128 = ((n / 128 : Nat) : Int) := by
 rw [Int.tdiv_eq_ediv_of_nonneg (by omega)]; omega
theorem put_int_l0 : ∀ (n : Nat) (xs : List Int), n < 9223372036854775808 → xs.length + (plain n).length ≤ 140737488355328 → Ev (fun k => pack_put_int.l0 k xs (n : Int)) (xs ++ plain n) := by
 intro n
 induction n using Nat.strongRecOn with
 |ind n ih =>
  intro xs hn hx
  by_cases h1 : n < 128
  ·rw [plain_small h1] at hx ⊢
   simp at hx
   refine Ev.step (fun k => by simp only [pack_put_int.l0]; rw [if_neg (by omega), if_pos (by omega)]) ?_
   rw [show (n : Int) % 256 = n from by omega]
   exact Ev.now _
  ·rw [plain_big (by omega)] at hx ⊢
   simp at hx
   refine Ev.step (fun k => by simp only [pack_put_int.l0]; rw [if_pos (by omega), if_pos (by omega)]) ?_
   rw [step_byte, step_rest, wrap_id (by omega) (by omega)]
   have := ih (n / 128) (by omega) (xs ++ [((n % 128 + 128 : Nat) : Int)]) (by omega) (by simp; omega)
   simpa using this
theorem put_u64_l0 : ∀ (n : Nat) (xs : List Int), n < 18446744073709551616 → xs.length + (plain n).length ≤ 140737488355328 → Ev (fun k => pack_put_uint64.l0 k xs (n : Int)) (xs ++ plain n) := by
 intro n
 induction n using Nat.strongRecOn with
 |ind n ih =>
  intro xs hn hx
  by_cases h1 : n < 128
  ·rw [plain_small h1] at hx ⊢
   simp at hx
   refine Ev.step (fun k => by simp only [pack_put_uint64.l0]; rw [if_neg (by omega), if_pos (by omega)]) ?_
   rw [show (n : Int) % 256 = n from by omega]
   exact Ev.now _
  ·rw [plain_big (by omega)] at hx ⊢
   simp at hx
   refine Ev.step (fun k => by simp only [pack_put_uint64.l0]; rw [if_pos (by omega), if_pos (by omega)]) ?_
   rw [step_byte, step_rest, IntKind.wrap_u64, show (((n / 128 : Nat) : Int) % 18446744073709551616) = ((n / 128 : Nat) : Int) from by omega]
   have := ih (n / 128) (by omega) (xs ++ [((n % 128 + 128 : Nat) : Int)]) (by omega) (by simp; omega)
   simpa using this
theorem put_int_ev (n : Nat) (xs : List Int) (hn : n < 9223372036854775808) (hx : xs.length ≤ 140737488355300) : Ev (fun k => pack_put_int.f k xs (n : Int)) (xs ++ plain n) :=
 put_int_l0 n xs hn (by have := plain_len9 hn; omega)
/-- The bits of a signed number, as the program turns them. -/
theorem zig_go (n : Int) (h0 : -4611686018427387904 ≤ n) (h1 : n ≤ 4611686018427387903) : Go.bits .xor .u64 (IntKind.u64.wrap ((IntKind.u64.wrap n) * 2)) (IntKind.u64.wrap (n / 9223372036854775808)) = (zig n : Int) := by
 rw [IntKind.wrap_u64, IntKind.wrap_u64, IntKind.wrap_u64]
 by_cases hn : n < 0
 ·obtain ⟨m, hm⟩ : ∃ m : Nat, n = -(m : Int) - 1 := ⟨(-n - 1).toNat, by omega⟩
  have e1 : (n % 18446744073709551616 * 2) % 18446744073709551616 = ((18446744073709551616 - 2 * (m + 1) : Nat) : Int) := by omega
  have e2 : (n / 9223372036854775808) % 18446744073709551616 = ((18446744073709551615 : Nat) : Int) := by omega
  rw [e1, e2, bits_xor_u64_nat _ _ (by omega) (by omega)]
  have e3 : (18446744073709551616 - 2 * (m + 1)) ^^^ 18446744073709551615 = 2 * m + 1 := by
   have hb := BitVec.toNat_not (x := BitVec.ofNat 64 (18446744073709551616 - 2 * (m + 1)))
   rw [← BitVec.xor_allOnes, BitVec.toNat_xor, BitVec.toNat_ofNat, BitVec.toNat_allOnes, Nat.mod_eq_of_lt (by omega)] at hb
   rw [show (18446744073709551615 : Nat) = 2 ^ 64 - 1 from rfl, hb]
   omega
  rw [e3]
  unfold zig
  rw [if_pos hn]
  omega
 ·have e1 : (n % 18446744073709551616 * 2) % 18446744073709551616 = (((2 * n).toNat : Nat) : Int) := by omega
  have e2 : (n / 9223372036854775808) % 18446744073709551616 = ((0 : Nat) : Int) := by omega
  rw [e1, e2, bits_xor_u64_nat _ _ (by omega) (by omega), Nat.xor_zero]
  unfold zig
  rw [if_neg hn]
theorem signed_ev (n : Int) (xs : List Int) (h0 : -4611686018427387904 ≤ n) (h1 : n ≤ 4611686018427387903) (hx : xs.length ≤ 140737488355300) : Ev (fun k => pack_signed.f k xs n) (xs ++ signed n) := by
 have hz := zig_lt h0 h1
 unfold pack_signed.f
 rw [zig_go n h0 h1]
 exact Ev.bind (put_u64_l0 (zig n) xs (by omega) (by have := plain_len9 hz; omega)) (Ev.now _)

/-- Check. -/
theorem check_l1 (texts : List ByteArray) (ht : texts.length ≤ 1024) : ∀ (d i : Nat), i + d = texts.length → Ev (fun k => pack_Check.l1 k texts (texts.length : Int) (i : Int)) (if (texts.drop i).all okText = false then 2 else 0)
 |0, i, h => by
  rw [List.drop_of_length_le (by omega), if_neg (by simp)]
  exact Ev.step (fun k => by simp only [pack_Check.l1]; rw [if_neg (by omega)]) (Ev.now _)
 |d + 1, i, h => by
  have hi : i < texts.length := by omega
  have e : wrap64 ((i : Int) + 1) = ((i + 1 : Nat) : Int) := by rw [wrap_id (by omega) (by omega)]; omega
  have hr : rdOf ByteArray.empty texts (i : Int) = texts[i] := by simp [rdOf, List.getD_eq_getElem?_getD, hi]
  have ih := check_l1 texts ht d (i + 1) (by omega)
  rw [List.drop_eq_getElem_cons hi, List.all_cons]
  refine Ev.step (fun k => by simp only [pack_Check.l1]; rw [if_pos (by omega), if_pos (by omega), if_pos (by omega), hr, e]) ?_
  by_cases hs : texts[i].size ≤ 4096
  ·rw [okText_iff.2 hs, Bool.true_and]
   exact Ev.neg (by omega) ih
  ·rw [show okText texts[i] = false from by simpa [okText] using hs, Bool.false_and, if_pos rfl]
   exact Ev.pos (by omega) (Ev.now _)
theorem check_l0 (nums : List Int) (texts : List ByteArray) (hn : nums.length ≤ 1024) (ht : texts.length ≤ 1024) : ∀ (d i : Nat), i + d = nums.length →
  Ev (fun k => pack_Check.l0 k nums (nums.length : Int) (i : Int) nums texts) (if (nums.drop i).all okNum = false then 1 else if texts.all okText = false then 2 else 0)
 |0, i, h => by
  rw [List.drop_of_length_le (by omega), if_neg (by simp)]
  refine Ev.step (fun k => by simp only [pack_Check.l0]; rw [if_neg (by omega)]) ?_
  simpa using check_l1 texts ht texts.length 0 (by omega)
 |d + 1, i, h => by
  have hi : i < nums.length := by omega
  have e : wrap64 ((i : Int) + 1) = ((i + 1 : Nat) : Int) := by rw [wrap_id (by omega) (by omega)]; omega
  have hr : rd nums (i : Int) = nums[i] := by simp [rd, List.getD_eq_getElem?_getD, hi]
  have ih := check_l0 nums texts hn ht d (i + 1) (by omega)
  rw [List.drop_eq_getElem_cons hi, List.all_cons]
  refine Ev.step (fun k => by simp only [pack_Check.l0]; rw [if_pos (by omega), if_pos (by omega), if_pos (by omega), hr, e, may_eq]) ?_
  cases ho : okNum nums[i] with
  |true => rw [Bool.true_and]; exact Ev.some_bind (Ev.pos rfl ih)
  |false => rw [Bool.false_and, if_pos rfl]; exact Ev.some_bind (Ev.neg (by simp) (Ev.now _))
theorem check_ev (nums : List Int) (texts : List ByteArray) : Ev (fun k => pack_Check.f k nums texts) (chk nums texts) := by
 unfold pack_Check.f chk
 by_cases h1 : 1024 < nums.length
 ·rw [if_pos (Or.inl h1)]
  exact Ev.pos (by omega) (Ev.step (fun k => by simp only [pack_Check.j0, if_true]) (Ev.now _))
 refine Ev.neg (by omega) ?_
 by_cases h2 : 1024 < texts.length
 ·rw [if_pos (Or.inr h2), decide_eq_true (by omega)]
  exact Ev.step (fun k => by simp only [pack_Check.j0, if_true]) (Ev.now _)
 rw [if_neg (by omega), decide_eq_false (by omega)]
 refine Ev.step (fun k => by simp only [pack_Check.j0]; rw [if_neg (by simp)]) ?_
 simpa using check_l0 nums texts (by omega) (by omega) nums.length 0 (by omega)

/-- Encode. -/
theorem enc_l1 (texts : List ByteArray) (ht : texts.length ≤ 1024) (hs : ∀ s ∈ texts, s.size ≤ 4096) : ∀ (d i : Nat) (xs : List Int), i + d = texts.length → xs.length + 4105 * d ≤ 100000000 →
  Ev (fun k => pack_Encode.l1 k xs texts (texts.length : Int) (i : Int)) (strOfNums (xs ++ tails (texts.drop i)), 0)
 |0, i, xs, h, hx => by
  rw [List.drop_of_length_le (by omega)]
  refine Ev.step (fun k => by simp only [pack_Encode.l1]; rw [if_neg (by omega)]) ?_
  rw [show tails [] = [] from rfl, List.append_nil]
  exact Ev.now _
 |d + 1, i, xs, h, hx => by
  have hi : i < texts.length := by omega
  have e : wrap64 ((i : Int) + 1) = ((i + 1 : Nat) : Int) := by rw [wrap_id (by omega) (by omega)]; omega
  have hr : rdOf ByteArray.empty texts (i : Int) = texts[i] := by simp [rdOf, List.getD_eq_getElem?_getD, hi]
  have hz := hs _ (List.getElem_mem hi)
  have hp : (plain texts[i].size).length ≤ 9 := plain_len9 (by omega)
  have ih := enc_l1 texts ht hs d (i + 1) (xs ++ plain texts[i].size ++ bytesOf texts[i]) (by omega) (by simp only [List.length_append, bytesOf_length]; omega)
  rw [List.drop_eq_getElem_cons hi]
  have et : tails (texts[i] :: texts.drop (i + 1)) = plain texts[i].size ++ bytesOf texts[i] ++ tails (texts.drop (i + 1)) := rfl
  rw [et]
  refine Ev.step (fun k => by simp only [pack_Encode.l1]; rw [if_pos (by omega), if_pos (by omega), if_pos (by omega), hr, e]) ?_
  refine Ev.bind (put_int_ev texts[i].size xs (by omega) (by omega)) (Ev.pos (by rw [List.length_append]; omega) ?_)
  simpa using ih
theorem enc_l0 (nums : List Int) (texts : List ByteArray) (hn : nums.length ≤ 1024) (ht : texts.length ≤ 1024) (hm : ∀ n ∈ nums, -4611686018427387904 ≤ n ∧ n ≤ 4611686018427387903) (hs : ∀ s ∈ texts, s.size ≤ 4096) : ∀ (d i : Nat) (xs : List Int), i + d = nums.length → xs.length + 9 * d ≤ 10000000 →
  Ev (fun k => pack_Encode.l0 k xs nums (nums.length : Int) (i : Int) nums texts) (strOfNums (xs ++ body (nums.drop i) ++ plain texts.length ++ tails texts), 0)
 |0, i, xs, h, hx => by
  rw [List.drop_of_length_le (by omega)]
  have hp : (plain texts.length).length ≤ 9 := plain_len9 (by omega)
  refine Ev.step (fun k => by simp only [pack_Encode.l0]; rw [if_neg (by omega)]) ?_
  refine Ev.bind (put_int_ev texts.length xs (by omega) (by omega)) ?_
  have := enc_l1 texts ht hs texts.length 0 (xs ++ plain texts.length) (by omega) (by rw [List.length_append]; omega)
  simpa [body] using this
 |d + 1, i, xs, h, hx => by
  have hi : i < nums.length := by omega
  have e : wrap64 ((i : Int) + 1) = ((i + 1 : Nat) : Int) := by rw [wrap_id (by omega) (by omega)]; omega
  have hr : rd nums (i : Int) = nums[i] := by simp [rd, List.getD_eq_getElem?_getD, hi]
  have hz := hm _ (List.getElem_mem hi)
  have hp : (signed nums[i]).length ≤ 9 := plain_len9 (zig_lt hz.1 hz.2)
  have ih := enc_l0 nums texts hn ht hm hs d (i + 1) (xs ++ signed nums[i]) (by omega) (by rw [List.length_append]; omega)
  rw [List.drop_eq_getElem_cons hi]
  have et : body (nums[i] :: nums.drop (i + 1)) = signed nums[i] ++ body (nums.drop (i + 1)) := rfl
  rw [et]
  refine Ev.step (fun k => by simp only [pack_Encode.l0]; rw [if_pos (by omega), if_pos (by omega), if_pos (by omega), hr, e]) ?_
  refine Ev.bind (signed_ev nums[i] xs hz.1 hz.2 (by omega)) ?_
  simpa using ih
/-- What Encode answers. -/
def encB (nums : List Int) (texts : List ByteArray) : ByteArray × Int := if chk nums texts = 0 then (strOfNums (enc nums texts), 0) else (⟨#[]⟩, chk nums texts)
theorem encode_ev (nums : List Int) (texts : List ByteArray) : Ev (fun k => pack_Encode.f k nums texts) (encB nums texts) := by
 unfold pack_Encode.f encB
 refine Ev.bind (check_ev nums texts) ?_
 by_cases h : chk nums texts = 0
 ·obtain ⟨h1, h2, h3, h4⟩ := chk_ok h
  rw [if_pos h]
  have hp : (plain nums.length).length ≤ 9 := plain_len9 (by omega)
  refine Ev.pos h (Ev.bind (put_int_ev nums.length [] (by omega) (by simp)) ?_)
  have := enc_l0 nums texts h1 h2 h3 h4 nums.length 0 ([] ++ plain nums.length) (by omega) (by simp; omega)
  simpa [enc] using this
 ·rw [if_neg h]
  exact Ev.neg h (Ev.now _)
end Go.Proofs.Ytbfjbcaabijpfaa.PackFns

/- What record.Encode comes to: the check's number, or the pack's bytes. -/
namespace Go.Proofs.Ytbfjbcaabijpfaa.RecSpec
open Go.RowKit Go.Proofs.Ytbfjbcaabijpfaa.Base Go.Proofs.Ytbfjbcaabijpfaa.PackMath Go.Proofs.Ytbfjbcaabijpfaa.PackFns Go.Proofs.Ytbfjbcaabijpfaa.LetSpec Go.Proofs.Ytbfjbcaabijpfaa.Al Go.Proofs.YtbfjbcaabijpfaaW.PrintWords
set_option linter.unusedVariables false
set_option linter.unusedSimpArgs false
theorem key_size {s : ByteArray} (h : keyB s = true) : s.size ≤ 32 := by
 unfold keyB at h
 exact (of_decide_eq_true h).2
theorem risFrom_all : ∀ (l : List ByteArray) (p : Option ByteArray), risFrom p l = true → ∀ s ∈ l, keyB s = true
 |[], _, _, _, h => by cases h
 |x :: l, p, h, s, hs => by
  have h1 : keyB x = true ∧ risFrom (some x) l = true := by
   cases p with
   |none => simpa [risFrom] using h
   |some q =>
    have h2 : (keyB x && (Op.bytesLess q.toList x.toList && risFrom (some x) l)) = true := h
    simp only [Bool.and_eq_true] at h2
    exact ⟨h2.1, h2.2.2⟩
  rcases List.mem_cons.1 hs with rfl | hs
  ·exact h1.1
  ·exact risFrom_all l (some x) h1.2 s hs
theorem ris_all {l : List ByteArray} (h : risB l = true) : ∀ s ∈ l, s.size ≤ 32 := fun s hs => key_size (risFrom_all l none h s hs)
theorem wri_all {l : List S50} (h : wriB l = true) : l.length ≤ 16 ∧ ∀ x ∈ l, x.f0.size ≤ 32 ∧ x.f1.size ≤ 2052 := by
 unfold wriB at h
 simp only [Bool.and_eq_true, decide_eq_true_eq, List.all_eq_true] at h
 obtain ⟨h1, h2, h3⟩ := h
 refine ⟨h2, fun x hx => ⟨ris_all h3 _ (List.mem_map.2 ⟨x, hx, rfl⟩), ?_⟩⟩
 have := h1 x hx
 simp only [oneW, Bool.and_eq_true, decide_eq_true_eq] at this
 exact this.1
theorem empty_size {s : ByteArray} (h : s.toList = []) : s.size = 0 := (empty_iff s).1 h
section
variable (a0 a1 a2 a3 : Int) (a4 a5 : ByteArray) (a6 : Bool) (l7 : List ByteArray) (l8 : List S50)
structure Bounds : Prop where
 b0 : 1 ≤ a0 ∧ a0 ≤ 7
 bh : headP a1 a2 a3
 b4 : a4.size ≤ 32
 b5 : a5.size ≤ 2052
 b7 : l7.length ≤ 16 ∧ ∀ s ∈ l7, s.size ≤ 32
 b8 : l8.length ≤ 16 ∧ ∀ x ∈ l8, x.f0.size ≤ 32 ∧ x.f1.size ≤ 2052
theorem ok_bounds (h : okR a0 a1 a2 a3 a4 a5 a6 l7 l8) : Bounds a0 a1 a2 a3 a4 a5 l7 l8 := by
 obtain ⟨hh, h⟩ := h
 have nil7 : l7.length = 0 → l7.length ≤ 16 ∧ ∀ s ∈ l7, s.size ≤ 32 := fun h => by obtain rfl := List.eq_nil_of_length_eq_zero h; exact ⟨by simp, fun s hs => by cases hs⟩
 have nil8 : l8.length = 0 → l8.length ≤ 16 ∧ ∀ x ∈ l8, x.f0.size ≤ 32 ∧ x.f1.size ≤ 2052 := fun h => by obtain rfl := List.eq_nil_of_length_eq_zero h; exact ⟨by simp, fun s hs => by cases hs⟩
 have mk : (1 ≤ a0 ∧ a0 ≤ 7) → bareT a4 a5 a6 → (l7.length = 0 ∧ l8.length = 0) → Bounds a0 a1 a2 a3 a4 a5 l7 l8 := fun h0 ht hl => ⟨h0, hh, by rw [empty_size ht.1]; omega, by rw [empty_size ht.2.1]; omega, nil7 hl.1, nil8 hl.2⟩
 unfold okK at h
 by_cases n1 : a0 = 1
 ·rw [if_pos n1] at h
  obtain ⟨⟨h1, h2, h3⟩, _, ht⟩ := h
  exact ⟨by omega, hh, by rw [empty_size ht.1]; omega, by rw [empty_size ht.2.1]; omega, ⟨h1, ris_all h2⟩, wri_all h3⟩
 rw [if_neg n1] at h
 by_cases n2 : a0 = 2
 ·rw [if_pos n2] at h; exact mk (by omega) h.2.2.2 h.1
 rw [if_neg n2] at h
 by_cases n5 : a0 = 5
 ·rw [if_pos n5] at h; exact mk (by omega) h.2.2.2.2 h.1
 rw [if_neg n5] at h
 by_cases n6 : a0 = 6
 ·rw [if_pos n6] at h; exact mk (by omega) h.2.2.2.2 h.1
 rw [if_neg n6] at h
 by_cases n3 : a0 = 3
 ·rw [if_pos n3] at h
  obtain ⟨hl, _, hk, hs, _⟩ := h
  exact ⟨by omega, hh, key_size hk, hs, nil7 hl.1, nil8 hl.2⟩
 rw [if_neg n3] at h
 by_cases n4 : a0 = 4
 ·rw [if_pos n4] at h; exact mk (by omega) h.2.2.2 h.1
 rw [if_neg n4] at h
 by_cases n7 : a0 = 7
 ·rw [if_pos n7] at h; exact mk (by omega) h.2.2.2.2 h.1
 rw [if_neg n7] at h
 exact h.elim
def recN : List Int := [a0, a1, a2, a3, oneI a6, (l7.length : Int)] ++ flagsOf l8
def recT : List ByteArray := [a4, a5] ++ l7 ++ pairsOf l8
theorem flags_len (l : List S50) : (flagsOf l).length = l.length := by simp [flagsOf]
theorem one_range (b : Bool) : 0 ≤ oneI b ∧ oneI b ≤ 1 := by cases b <;> decide
theorem rec_chk (h : okR a0 a1 a2 a3 a4 a5 a6 l7 l8) : chk (recN a0 a1 a2 a3 a6 l7 l8) (recT a4 a5 l7 l8) = 0 := by
 obtain ⟨b0, ⟨p1, p2, p3, p4, p5, p6⟩, b4, b5, ⟨b7, c7⟩, ⟨b8, c8⟩⟩ := ok_bounds _ _ _ _ _ _ _ _ _ h
 refine chk_of ?_ ?_ ?_ ?_
 ·simp only [recN, List.length_append, flags_len, List.length_cons, List.length_nil]; omega
 ·simp only [recT, List.length_append, pairs_len, List.length_cons, List.length_nil]; omega
 ·intro n hn
  simp only [recN, List.mem_append, List.mem_cons, List.not_mem_nil, or_false, flagsOf, List.mem_map] at hn
  rcases hn with (rfl | rfl | rfl | rfl | rfl | rfl) | ⟨x, _, rfl⟩
  ·omega
  ·omega
  ·omega
  ·omega
  ·have := one_range a6; omega
  ·omega
  ·have := one_range x.f2; omega
 ·intro s hs
  simp only [recT, List.mem_append, List.mem_cons, List.not_mem_nil, or_false, pairsOf, List.mem_flatten, List.mem_map] at hs
  rcases hs with ((rfl | rfl) | hs) | ⟨l, ⟨x, hx, rfl⟩, hs⟩
  ·omega
  ·omega
  ·have := c7 s hs; omega
  ·have h1 := c8 x hx
   simp only [List.mem_cons, List.not_mem_nil, or_false] at hs
   rcases hs with rfl | rfl <;> omega
/-- The bytes and the error of a record. -/
def encR : ByteArray × Int := if okR a0 a1 a2 a3 a4 a5 a6 l7 l8 then (strOfNums (enc (recN a0 a1 a2 a3 a6 l7 l8) (recT a4 a5 l7 l8)), 0) else (⟨#[]⟩, 80)
variable (h7 : l7.length ≤ 8796093022000) (h8 : l8.length ≤ 8796093022000)
include h7 h8 in
theorem encodeR_ev : Ev (fun k => record_Encode.f k a0 a1 a2 a3 a4 a5 a6 l7 l8) (encR a0 a1 a2 a3 a4 a5 a6 l7 l8) := by
 unfold record_Encode.f encR
 rw [rcheck_eq _ _ _ _ _ _ _ _ _ h7 h8]
 refine Ev.some_bind ?_
 by_cases h : okR a0 a1 a2 a3 a4 a5 a6 l7 l8
 ·rw [if_pos h, if_pos h]
  have hb := ok_bounds _ _ _ _ _ _ _ _ _ h
  have he := encode_ev (recN a0 a1 a2 a3 a6 l7 l8) (recT a4 a5 l7 l8)
  unfold encB at he
  rw [if_pos (rec_chk _ _ _ _ _ _ _ _ _ h)] at he
  exact Ev.pos rfl (Ev.pos ⟨by have := hb.b7.1; omega, by have := hb.b8.1; omega⟩ he)
 ·rw [if_neg h, if_neg h]
  exact Ev.neg (by decide) (Ev.now _)
end
theorem works_encR : encR 2 5 9 0 (⟨#[]⟩ : ByteArray) (⟨#[]⟩ : ByteArray) false [] [] = (⟨#[6, 4, 10, 18, 0, 0, 0, 2, 0, 0]⟩, 0) := by
 have h : okR 2 5 9 0 (⟨#[]⟩ : ByteArray) (⟨#[]⟩ : ByteArray) false [] [] := ⟨by unfold headP; omega, by unfold okK; rw [if_neg (by omega), if_pos rfl]; exact ⟨⟨rfl, rfl⟩, by omega, rfl, nil_toList, nil_toList, rfl⟩⟩
 have e2 : signed 2 = [4] := by unfold signed; rw [show zig 2 = 4 from by decide, plain_small (by omega)]; rfl
 have e5 : signed 5 = [10] := by unfold signed; rw [show zig 5 = 10 from by decide, plain_small (by omega)]; rfl
 have e9 : signed 9 = [18] := by unfold signed; rw [show zig 9 = 18 from by decide, plain_small (by omega)]; rfl
 have e0 : signed 0 = [0] := by unfold signed; rw [show zig 0 = 0 from by decide, plain_small (by omega)]; rfl
 have e : enc (recN 2 5 9 0 false [] []) (recT (⟨#[]⟩ : ByteArray) (⟨#[]⟩ : ByteArray) [] []) = [6, 4, 10, 18, 0, 0, 0, 2, 0, 0] := by
  have en : recN 2 5 9 0 false [] [] = [2, 5, 9, 0, 0, 0] := rfl
  have et : recT (⟨#[]⟩ : ByteArray) (⟨#[]⟩ : ByteArray) [] [] = [(⟨#[]⟩ : ByteArray), (⟨#[]⟩ : ByteArray)] := rfl
  rw [en, et]
  simp only [enc, body, tails, List.map_cons, List.map_nil, e2, e5, e9, e0]
  rw [plain_small (by decide), plain_small (by decide), plain_small (by decide)]
  rfl
 unfold encR
 rw [if_pos h, e]
 rfl
theorem worksR_ev : Ev (fun k => corncriblaw08_works.f k) true := by
 have h := encodeR_ev 2 5 9 0 (⟨#[]⟩ : ByteArray) (⟨#[]⟩ : ByteArray) false [] [] (by simp) (by simp)
 rw [works_encR] at h
 unfold corncriblaw08_works.f
 refine Ev.bind h (Ev.pos rfl ?_)
 rw [toList_eq]
 exact Ev.now _
end Go.Proofs.Ytbfjbcaabijpfaa.RecSpec

/- An argument of any shape that is read: what the walk's contracts ask of it, and its bounds by the row's own reach and by the second form's bulk. -/
namespace Go.Proofs.Ytbfjbcaabijpfaa.Open
open Go.RowKit Go.Proofs.YtbfjbcaabijpfaaW.PrintWords

/-- Whatever reads as data of type t is told by d: V always, L where each string and slice is within the reach, m is within the bulk. -/
structure Opens {α : Type} (P : Program) (t : TypeId) (d : Kd α) (V L : α → Prop) (m : α → Nat) : Prop where
 out : ∀ {H : Type} {enc : TypeId × Value → H} {w : World} {base : Nat} {spare : Nat → Bool} {held : Bool} {fuel : Nat} {cs : List Value} {x : DataW H × List MemPlace}, DataW.trod enc P w base spare held fuel t cs = some x →
  ∃ a : α, d.K w a cs ∧ V a ∧ ((DataW.weights P t x.1).all (· ≤ reachBytes) = true → L a) ∧ m a ≤ Rows.uptoBulk x.1

theorem opens_int {P : Program} {t : TypeId} {k : IntKind} (ht : P.underlying t = some (.int k)) : Opens P t (Kd.int k) (fun n => (Lit.int k n).wf = true) (fun _ => True) (fun _ => 1) where
 out h := by
  obtain ⟨n, rfl, rfl, hw⟩ := DataW.trod_int ht h
  exact ⟨n, rfl, hw, fun _ => trivial, Nat.le_refl _⟩
theorem opens_bool {P : Program} {t : TypeId} (ht : P.underlying t = some .bool) : Opens P t Kd.bool (fun _ => True) (fun _ => True) (fun _ => 1) where
 out h := by
  obtain ⟨n, rfl, rfl⟩ := DataW.trod_bool ht h
  exact ⟨n, rfl, trivial, fun _ => trivial, Nat.le_refl _⟩
theorem opens_string {P : Program} {t : TypeId} (ht : P.underlying t = some .string) : Opens P t Kd.string (fun s => s.size ≤ maxLen) (fun s => s.size ≤ 140737488351232) (fun s => s.size + 1) where
 out h := by
  obtain ⟨s, rfl, rfl, hw⟩ := DataW.trod_string ht h
  refine ⟨s, rfl, hw, fun hx => ?_, ?_⟩
  ·simp only [DataW.weights, List.all_cons, List.all_nil, Bool.and_true, decide_eq_true_eq, data_length] at hx
   exact hx
  ·simp [Rows.uptoBulk]

theorem add_add (a : Addr) (m j : Nat) : (a.add m).add j = a.add (m + j) := by
 unfold Addr.add
 by_cases hm : m = 0 <;> by_cases hj : j = 0 <;> simp [hm, hj, Nat.add_assoc]
theorem mapM_some {β γ : Type} {f : β → Option γ} : ∀ {l : List β} {r : List γ}, l.mapM f = some r → r.length = l.length ∧ ∀ i (h : i < l.length), f l[i] = r[i]?
 |[], r, h => by simp at h; subst h; simp
 |b :: l, r, h => by
  rw [List.mapM_cons] at h
  simp only [Option.bind_eq_bind, Option.bind_eq_some_iff, Option.pure_def, Option.some.injEq] at h
  obtain ⟨c, hc, q, hq, rfl⟩ := h
  obtain ⟨hl, hi⟩ := mapM_some hq
  refine ⟨by simp [hl], fun i h => ?_⟩
  cases i with
  |zero => simpa using hc
  |succ i => simpa using hi i (by simpa using h)
theorem cells_get {w : World} {base : Nat} {a : Addr} {n : Nat} {cs : List Value} (h : w.cells? base a n = some cs) : cs.length = n ∧ ∀ i u, cs[i]? = some u → w.cell? (a.add i) = some u := by
 unfold World.cells? at h
 split at h
 ·obtain ⟨hl, hi⟩ := mapM_some h
  simp at hl
  refine ⟨hl, fun i u hu => ?_⟩
  have hlt : i < cs.length := (List.getElem?_eq_some_iff.1 hu).1
  have := hi i (by simp; omega)
  simpa [hu] using this
 ·cases h

theorem list_of {α : Type} {Q : Nat → α → Prop} : ∀ n, (∀ i, i < n → ∃ a, Q i a) → ∃ l : List α, l.length = n ∧ ∀ i a, l[i]? = some a → Q i a
 |0, _ => ⟨[], rfl, fun i a h => by simp at h⟩
 |n + 1, h => by
  obtain ⟨l, hl, hq⟩ := list_of n (fun i hi => h i (by omega))
  obtain ⟨a, ha⟩ := h n (by omega)
  refine ⟨l ++ [a], by simp [hl], fun i b hb => ?_⟩
  by_cases hi : i < n
  ·rw [List.getElem?_append_left (by omega)] at hb
   exact hq i b hb
  ·have hlt := (List.getElem?_eq_some_iff.1 hb).1
   simp at hlt
   obtain rfl : i = n := by omega
   rw [List.getElem?_append_right (by omega), hl] at hb
   simp at hb
   exact hb ▸ ha
theorem all_append {l r : List Nat} {p : Nat → Bool} : (l ++ r).all p = true ↔ l.all p = true ∧ r.all p = true := by rw [List.all_append, Bool.and_eq_true]
theorem weights_all {H : Type} {P : Program} {e : TypeId} {p : Nat → Bool} : ∀ {ds : List (DataW H)}, (DataW.weightsAll P e ds).all p = true → ∀ d ∈ ds, (DataW.weights P e d).all p = true
 |[], _, d, hd => by simp at hd
 |d0 :: ds, h, d, hd => by
  rw [DataW.weightsAll, all_append] at h
  rcases List.mem_cons.1 hd with rfl | hd
  ·exact h.1
  ·exact weights_all h.2 d hd
theorem bulk_all {H α : Type} {m : α → Nat} : ∀ {l : List α} {ds : List (DataW H)}, l.length = ds.length → (∀ (i : Nat) (a : α) (y : DataW H), l[i]? = some a → ds[i]? = some y → m a ≤ Rows.uptoBulk y) → (l.map m).sum ≤ Rows.uptoBulkAll ds
 |[], [], _, _ => by simp [Rows.uptoBulkAll]
 |a :: l, d :: ds, hl, h => by
  have ih := bulk_all (l := l) (ds := ds) (by simpa using hl) (fun i a y h1 h2 => h (i + 1) a y (by simpa using h1) (by simpa using h2))
  have h0 := h 0 a d rfl rfl
  simp only [List.map_cons, List.sum_cons, Rows.uptoBulkAll]
  omega
 |[], _ :: _, hl, _ => by simp at hl
 |_ :: _, [], hl, _ => by simp at hl

theorem opens_slice {α : Type} {P : Program} {t e : TypeId} {d : Kd α} {V L : α → Prop} {m : α → Nat} (q : Nat) (b : Nat) (ht : P.underlying t = some (.slice e)) (hsz : P.cellsOf e = d.sz) (hb : P.bytesOf e = b) (ho : Opens P e d V L m) :
  Opens P t (Kd.slice q d) (fun l => ∀ a ∈ l, V a) (fun l => l.length * b ≤ 140737488351232 ∧ ∀ a ∈ l, L a) (fun l => (l.map m).sum + 1) where
 out {H enc w base spare held fuel cs x} h := by
  rcases DataW.trod_slice ht h with ⟨rfl, rfl⟩ | ⟨ad, len, cap, elems, rest, n, rfl, rfl, rfl, hbase, hlc, hcm, hlen, hel, hsp, hns⟩
  ·exact ⟨[], ⟨none, 0, rfl, Nat.le_refl _, rfl, by simp, fun h => absurd h (by simp)⟩, by simp, fun _ => by simp, by simp [Rows.uptoBulk]⟩
  obtain ⟨l, hl, hq⟩ := list_of (Q := fun i a => (∃ c, c.length = d.sz ∧ d.K w a c ∧ (∀ j u, c[j]? = some u → w.cell? (ad.add (i * d.sz + j)) = some u)) ∧ V a ∧ (∀ y, elems[i]? = some y → ((DataW.weights P e y.1).all (· ≤ reachBytes) = true → L a) ∧ m a ≤ Rows.uptoBulk y.1)) len (by
   intro i hi
   have hy : elems[i]? = some (elems[i]'(by omega)) := List.getElem?_eq_getElem (by omega)
   have h1 := hel i hi
   rw [hy, Option.bind_eq_some_iff] at h1
   obtain ⟨c, hc, hx⟩ := h1
   obtain ⟨a, hK, hV, hL, hm⟩ := ho.out hx
   obtain ⟨hcl, hcc⟩ := cells_get hc
   rw [hsz] at hcl hcc
   refine ⟨a, ⟨c, hcl, hK, fun j u hu => by rw [← add_add]; exact hcc j u hu⟩, hV, fun y hy' => ?_⟩
   rw [hy] at hy'
   obtain rfl := Option.some.inj hy'
   exact ⟨hL, hm⟩)
  have hmax : len ≤ 9223372036854775807 := by unfold maxLen at hcm; omega
  have mem : ∀ a ∈ l, ∃ i, l[i]? = some a := fun a ha => List.mem_iff_getElem?.1 ha
  refine ⟨l, ⟨some ad, cap, by rw [hl], by omega, rfl, by omega, fun _ => ⟨ad, rfl, fun j p hp => ?_⟩⟩, ?_, ?_, ?_⟩
  ·obtain ⟨⟨c, hcl, hK, hcc⟩, _⟩ := hq j p hp
   exact ⟨c, hcl, hK, hcc⟩
  ·intro a ha
   obtain ⟨i, hi⟩ := mem a ha
   exact (hq i a hi).2.1
  ·intro hw
   simp only [DataW.weights, ht, List.all_cons, Bool.and_eq_true, decide_eq_true_eq, all_append, List.length_map, hb] at hw
   obtain ⟨hw1, hw2, _⟩ := hw
   have hw1' : (elems.length + rest.length) * b ≤ 140737488351232 := hw1
   refine ⟨?_, ?_⟩
   ·rw [hl, ← hlen]
    exact Nat.le_trans (Nat.mul_le_mul_right b (Nat.le_add_right _ _)) hw1'
   ·intro a ha
    obtain ⟨i, hi⟩ := mem a ha
    have hlt : i < elems.length := by have := (List.getElem?_eq_some_iff.1 hi).1; omega
    refine ((hq i a hi).2.2 _ (List.getElem?_eq_getElem hlt)).1 (weights_all hw2 _ ?_)
    exact List.mem_map.2 ⟨_, List.getElem_mem hlt, rfl⟩
  ·have hbk : (l.map m).sum ≤ Rows.uptoBulkAll (elems.map (·.1)) := bulk_all (by rw [hl, List.length_map, hlen]) (fun i a y h1 h2 => by
    rw [List.getElem?_map, Option.map_eq_some_iff] at h2
    obtain ⟨z, hz, rfl⟩ := h2
    exact ((hq i a h1).2.2 z hz).2)
   simp only [Rows.uptoBulk]
   omega

/-- The fields of a struct, one behind the other, from a place on. -/
structure OpensF {α : Type} (P : Program) (off : Nat) (fs : List Field) (d : Kd α) (V L : α → Prop) (m : α → Nat) : Prop where
 out : ∀ {H : Type} {enc : TypeId × Value → H} {w : World} {base : Nat} {spare : Nat → Bool} {held : Bool} {fuel : Nat} {cs : List Value} {xs : List (DataW H × List MemPlace)},
  fs.mapM (fun f => DataW.trod enc P w base spare held fuel f.type ((cs.drop f.offset).take (P.cellsOf f.type))) = some xs → cs.length = off + d.sz →
  ∃ a : α, d.K w a (cs.drop off) ∧ V a ∧ ((DataW.weightsEach P (fs.map (·.type)) (xs.map (·.1))).all (· ≤ reachBytes) = true → L a) ∧ m a ≤ Rows.uptoBulkAll (xs.map (·.1))
theorem opensF_one {α : Type} {P : Program} {off : Nat} {f : Field} {d : Kd α} {V L : α → Prop} {m : α → Nat} (ho : Opens P f.type d V L m) (hoff : f.offset = off) (hsz : P.cellsOf f.type = d.sz) : OpensF P off [f] d V L m where
 out {H enc w base spare held fuel cs xs} h hl := by
  obtain ⟨h1, h2⟩ := mapM_some h
  have e : xs = [xs[0]'(by rw [h1]; simp)] := by
   apply List.ext_getElem
   ·simpa using h1
   ·intro i hi _
    have : i = 0 := by rw [h1] at hi; simpa using hi
    subst this
    rfl
  have h3 := h2 0 (by simp)
  rw [List.getElem?_eq_getElem (by rw [h1]; simp)] at h3
  simp only [List.getElem_cons_zero] at h3
  rw [hoff, hsz, List.take_of_length_le (by rw [List.length_drop]; omega)] at h3
  obtain ⟨a, hK, hV, hL, hm⟩ := ho.out h3
  refine ⟨a, hK, hV, fun hw => hL ?_, ?_⟩
  ·rw [e] at hw
   simpa [DataW.weightsEach] using hw
  ·rw [e]
   simpa [Rows.uptoBulkAll] using hm
theorem opensF_cons {α β : Type} {P : Program} {off : Nat} {f : Field} {fs : List Field} {d : Kd α} {V L : α → Prop} {m : α → Nat} {d' : Kd β} {V' L' : β → Prop} {m' : β → Nat}
  (ho : Opens P f.type d V L m) (hoff : f.offset = off) (hsz : P.cellsOf f.type = d.sz) (hr : OpensF P (off + d.sz) fs d' V' L' m') :
  OpensF P off (f :: fs) (Kd.pair d d') (fun a => V a.1 ∧ V' a.2) (fun a => L a.1 ∧ L' a.2) (fun a => m a.1 + m' a.2) where
 out {H enc w base spare held fuel cs xs} h hl := by
  rw [List.mapM_cons] at h
  simp only [Option.bind_eq_bind, Option.bind_eq_some_iff, Option.pure_def, Option.some.injEq] at h
  obtain ⟨x, hx, xs', hxs, rfl⟩ := h
  rw [hoff, hsz] at hx
  have hl' : cs.length = off + (d.sz + d'.sz) := hl
  obtain ⟨a, hK, hV, hL, hm⟩ := ho.out hx
  obtain ⟨b, hK', hV', hL', hm'⟩ := hr.out hxs (by omega)
  refine ⟨(a, b), ⟨_, _, ?_, hK, hK'⟩, ⟨hV, hV'⟩, fun hw => ?_, ?_⟩
  ·rw [← List.drop_drop, List.take_append_drop]
  ·simp only [List.map_cons, DataW.weightsEach, all_append] at hw
   exact ⟨hL hw.1, hL' hw.2⟩
  ·simp only [List.map_cons, Rows.uptoBulkAll]
   omega
theorem opens_struct {α β : Type} {P : Program} {t : TypeId} {fs : Array Field} {d : Kd α} {V L : α → Prop} {m : α → Nat} (f : β → α) (g : α → β) (hfg : ∀ a, f (g a) = a) (ht : P.underlying t = some (.struct fs)) (hsz : P.cellsOf t = d.sz) (hf : OpensF P 0 fs.toList d V L m) :
  Opens P t (Kd.iso d f) (fun b => V (f b)) (fun b => L (f b)) (fun b => m (f b) + 1) where
 out {H enc w base spare held fuel cs x} h := by
  cases fuel with
  |zero => simp [DataW.trod] at h
  |succ n =>
   unfold DataW.trod at h
   rw [ht] at h
   simp only at h
   split at h
   ·rename_i hl
    rw [Option.map_eq_some_iff] at h
    obtain ⟨xs, hxs, rfl⟩ := h
    obtain ⟨a, hK, hV, hL, hm⟩ := hf.out hxs (by omega)
    refine ⟨g a, ?_, ?_, ?_, ?_⟩
    ·show d.K w (f (g a)) cs
     rw [hfg]
     simpa using hK
    ·show V (f (g a))
     rw [hfg]; exact hV
    ·intro hw
     show L (f (g a))
     rw [hfg]
     simp only [DataW.weights, ht] at hw
     exact hL hw
    ·rw [hfg]
     simp only [Rows.uptoBulk]
     omega
   ·cases h
end Go.Proofs.Ytbfjbcaabijpfaa.Open
