/- What the laws stand on, in one text: functions of the program by their contracts, and the plain mathematics behind them (4 of them). -/
import Derived.Test.YtelgpkbnahgdoaaPba
import Derived.Deep.RegionHeld3
import Derived.Deep.RegionLaw

/- letter.Encode by its contract: Check, and the pack of the letter's numbers and texts. An own text in the printer's form. -/
namespace Go.Proofs.Ytelgpkbnahgdoaa.Al
open Go.RowKit Go.Proofs.RegT Go.Proofs.Ytelgpkbnahgdoaa.Base Go.Proofs.Ytelgpkbnahgdoaa.LetSpec Go.Proofs.YtelgpkbnahgdoaaW.PrintWords Go.Proofs.YtelgpkbnahgdoaaW.PrintLast Go.Proofs.YtelgpkbnahgdoaaW.PrintMore
set_option linter.unusedVariables false
set_option linter.unusedSimpArgs false
def flagsOf (l : List S49) : List Int := l.map fun x => if x.f2 = true then 1 else 0
def pairsOf (l : List S49) : List ByteArray := (l.map fun x => [x.f0, x.f1]).flatten
def letter_Encode.f (k : Nat) (a0_0 : Int) (a0_1 : Int) (a0_2 : Int) (a0_3 : Int) (a0_4 : Int) (a0_5 : Int) (a0_6 : ByteArray) (l0_7 : List ByteArray) (l0_8 : List (S49)) : Option (ByteArray × Int) :=
 (letter_Check.f a0_0 a0_1 a0_2 a0_3 a0_4 a0_5 a0_6 l0_7 l0_8).bind fun t => if t = 0 then (if l0_7.length ≤ 1000000 ∧ l0_8.length ≤ 1000000 then pack_Encode.f k ([a0_0, a0_1, a0_2, a0_3, a0_4, a0_5, (l0_7.length : Int)] ++ flagsOf l0_8) ([a0_6] ++ l0_7 ++ pairsOf l0_8) else none) else some ((⟨#[]⟩ : ByteArray), t)
theorem letter_Encode.mono : ∀ a0_0 a0_1 a0_2 a0_3 a0_4 a0_5 a0_6 l0_7 l0_8 k, LeO (letter_Encode.f k a0_0 a0_1 a0_2 a0_3 a0_4 a0_5 a0_6 l0_7 l0_8) (letter_Encode.f (k + 1) a0_0 a0_1 a0_2 a0_3 a0_4 a0_5 a0_6 l0_7 l0_8) := by
 intro a0_0 a0_1 a0_2 a0_3 a0_4 a0_5 a0_6 l0_7 l0_8 k
 unfold letter_Encode.f
 refine LeO.bind (LeO.refl _) (fun t => LeO.ite (LeO.ite (pack_Encode.mono _ _ _) (LeO.none _)) (LeO.refl _))
/-- The pack under way: the letter's block gl, the pack's block gp, its slices. -/
structure PE (w0 W : World) (gl : Nat) (cs : Array Value) (gp : Nat) (xs : List Int) (ts : List ByteArray) (vN vT : Value) : Prop where
 bl : W.heap[gl]? = some (.cells cs 25 (0, 0))
 bp : W.heap[gp]? = some (.cells #[vN, vT] 47 (0, 0))
 gep : w0.heap.size ≤ gp
 ns : (Kd.int .i64).R 3 W w0.heap.size (fun _ => True) vN xs
 ts : Kd.string.R 9 W w0.heap.size (fun _ => True) vT ts
 bel : Below w0.heap.size w0 W
theorem blkFar {W : World} {g : Nat} {o : Obj} (h : W.heap[g]? = some o) (p : Addr) (hne : g ≠ p.block) (u : Value) : (W.setCell p u).heap[g]? = some o := (Below.heap_setCell W p u g hne).trans h
theorem blkNe {W : World} {g g' t t' : Nat} {cs cs' : Array Value} (h : W.heap[g]? = some (.cells cs t (0, 0))) (h' : W.heap[g']? = some (.cells cs' t' (0, 0))) (ht : t ≠ t') : g ≠ g' := by
 rintro rfl
 rw [h] at h'
 injection h' with h'
 injection h' with _ h'
 exact ht h'
section
variable {w0 W : World} {gl gp : Nat} {cs : Array Value} {xs : List Int} {ts : List ByteArray} {vN vT : Value}
theorem PE.below {W1 : World} (h : PE w0 W gl cs gp xs ts vN vT) (hb : Below W.heap.size W W1) : PE w0 W1 gl cs gp xs ts vN vT where
 bl := blk_below h.bl hb
 bp := blk_below h.bp hb
 gep := h.gep
 ns := Kd.R_below h.ns hb
 ts := Kd.R_below h.ts hb
 bel := below_step h.bel hb
theorem PE.set (h : PE w0 W gl cs gp xs ts vN vT) {g : Nat} {cs' : Array Value} (hq : W.heap[g]? = some (.cells cs' 49 (0, 0))) (hge : w0.heap.size ≤ g) (j : Nat) (u : Value) : PE w0 (W.setCell ⟨g, j, none⟩ u) gl cs gp xs ts vN vT where
 bl := blkFar h.bl _ (blkNe h.bl hq (by decide)) u
 bp := blkFar h.bp _ (blkNe h.bp hq (by decide)) u
 gep := h.gep
 ns := Kd.R_set h.ns hq (by decide) j u
 ts := Kd.R_set h.ts hq (by decide) j u
 bel := below_set h.bel hge
theorem PE.drew (h : PE w0 W gl cs gp xs ts vN vT) : PE w0 W.drew gl cs gp xs ts vN vT := h.below (below_drew (Below.refl _ _))
/-- The new slices are stored. -/
theorem PE.of {w3 : World} {vN' vT' : Value} (hl : w3.heap[gl]? = some (.cells cs 25 (0, 0))) (hb : Below w0.heap.size w0 w3) (hn : (Kd.int .i64).R 3 w3 w0.heap.size (fun _ => True) vN xs) (ht : Kd.string.R 9 w3 w0.heap.size (fun _ => True) vT ts) (hq : w3.heap[gp]? = some (.cells #[vN', vT'] 47 (0, 0))) (hge : w0.heap.size ≤ gp) : PE w0 ((w3.setCell ⟨gp, 0, none⟩ vN).setCell ⟨gp, 1, none⟩ vT) gl cs gp xs ts vN vT where
 bl := blkFar (blkFar hl _ (blkNe hl hq (by decide)) _) _ (blkNe hl hq (by decide)) _
 bp := by simpa using blk_set (blk_set hq 0 vN) 1 vT
 gep := hge
 ns := Kd.R_set (Kd.R_set hn hq (by decide) 0 vN) (by simpa using blk_set hq 0 vN) (by decide) 1 vT
 ts := Kd.R_set (Kd.R_set ht hq (by decide) 0 vN) (by simpa using blk_set hq 0 vN) (by decide) 1 vT
 bel := below_set (below_set hb hge) hge
theorem round_less {n i : Nat} {x : Int} (hx : x = (i : Int)) (h : i < n) : n - (intOf (.int .i64 (x + 1))).toNat < n - (intOf (.int .i64 x)).toNat := by simp [intOf]; omega
theorem pairs_len (l : List S49) : (pairsOf l).length = 2 * l.length := by
 unfold pairsOf
 induction l with
 |nil => rfl
 |cons x l ih => simp only [List.map_cons, List.flatten_cons, List.length_append, List.length_cons, List.length_nil]; omega
theorem flags_step {l : List S49} {i : Nat} (h : i < l.length) : flagsOf (l.take (i + 1)) = flagsOf (l.take i) ++ [if l[i].f2 = true then 1 else 0] := by unfold flagsOf; rw [List.take_succ_eq_append_getElem h, List.map_append]; rfl
theorem pairs_step {l : List S49} {i : Nat} (h : i < l.length) : pairsOf (l.take (i + 1)) = pairsOf (l.take i) ++ [l[i].f0, l[i].f1] := by unfold pairsOf; rw [List.take_succ_eq_append_getElem h, List.map_append, List.flatten_append]; simp only [List.map_cons, List.map_nil, List.flatten_cons, List.flatten_nil, List.append_nil]
end
theorem reps_ints (W : World) (base : Nat) (ok : Nat → Prop) (l : List Int) : Reps ((Kd.int .i64).M W base ok) 1 l (l.map (Value.int .i64)) :=
 ⟨by simp, fun j p hj => by
  have h : (l.map (Value.int .i64))[j]? = some (.int .i64 p) := by rw [List.getElem?_map, hj]; rfl
  obtain ⟨h1, h2⟩ := List.getElem?_eq_some_iff.1 h
  show (List.drop (j * 1) _).take 1 = [Value.int .i64 p]
  rw [Nat.mul_one, List.drop_eq_getElem_cons h1, h2]
  rfl⟩
theorem reps_texts (W : World) (base : Nat) (ok : Nat → Prop) (l : List ByteArray) : Reps (Kd.string.M W base ok) 1 l (l.map Value.string) :=
 ⟨by simp, fun j p hj => by
  have h : (l.map Value.string)[j]? = some (.string p) := by rw [List.getElem?_map, hj]; rfl
  obtain ⟨h1, h2⟩ := List.getElem?_eq_some_iff.1 h
  show (List.drop (j * 1) _).take 1 = [Value.string p]
  rw [Nat.mul_one, List.drop_eq_getElem_cons h1, h2]
  rfl⟩
theorem step_alloc {P : Program} {ops : Array Oper} {o : Oper} {a : Act} {W : World} {Q : Exit → Act → World → Prop} {Kc : Act → World → Prop} {ob : Obj} (hw : Region.wanted o (yielded ops a.tmps) = true) (hrun : (execOp a.eval o).run P W = .ok (.value (.pointer (some ⟨W.heap.size, 0, none⟩))) (W.alloc ob))
  (h : ∀ w1 gz, w1.heap[gz]? = some ob → W.heap.size ≤ gz → Below W.heap.size W w1 → Kc (a.put o.dst (.pointer (some ⟨gz, 0, none⟩))) w1) : if Region.wanted o (yielded ops a.tmps) = true then Oper.wp P o a W Kc Q else Kc (a.put o.dst undef) W :=
 event_step hw hrun (h (W.alloc ob) W.heap.size (blk_new _ _) (Nat.le_refl _) (below_alloc (Below.refl _ _) _))
theorem keep8 {W : World} {gl : Nat} {b0 b1 b2 b3 b4 b5 : Int} {t : ByteArray} {A7 A8 : Option Addr} {n7 c7 n8 c8 : Nat} (h : W.heap[gl]? = some (.cells #[.int .i64 b0, .int .i64 b1, .int .i64 b2, .int .i64 b3, .int .i64 b4, .int .i64 b5, .string t, .slice A7 n7 c7, .slice A8 n8 c8] 25 (0, 0))) : W.cell? ⟨gl, 0, none⟩ = some (.int .i64 b0) ∧ W.cell? ⟨gl, 1, none⟩ = some (.int .i64 b1) ∧ W.cell? ⟨gl, 2, none⟩ = some (.int .i64 b2) ∧ W.cell? ⟨gl, 3, none⟩ = some (.int .i64 b3) ∧ W.cell? ⟨gl, 4, none⟩ = some (.int .i64 b4) ∧ W.cell? ⟨gl, 5, none⟩ = some (.int .i64 b5) ∧ W.cell? ⟨gl, 6, none⟩ = some (.string t) ∧ W.cell? ⟨gl, 7, none⟩ = some (.slice A7 n7 c7) :=
 ⟨(blk_cell h 0).trans rfl, (blk_cell h 1).trans rfl, (blk_cell h 2).trans rfl, (blk_cell h 3).trans rfl, (blk_cell h 4).trans rfl, (blk_cell h 5).trans rfl, (blk_cell h 6).trans rfl, (blk_cell h 7).trans rfl⟩
set_option maxHeartbeats 8000000 in
set_option maxRecDepth 100000 in
theorem letter_Encode.calls (k : Nat) (a0_0 : Int) (a0_1 : Int) (a0_2 : Int) (a0_3 : Int) (a0_4 : Int) (a0_5 : Int) (a0_6 : ByteArray) (A0_7 : Option Addr) (c0_7 : Nat) (l0_7 : List ByteArray) (A0_8 : Option Addr) (c0_8 : Nat) (l0_8 : List (S49)) (r1 : ByteArray) (r2 : Int) (w : World) (hr0_7 : Kd.C Kd.string w A0_7 l0_7.length l0_7) (hc0_7 : l0_7.length ≤ c0_7) (hr0_8 : Kd.C k49 w A0_8 l0_8.length l0_8) (hc0_8 : l0_8.length ≤ c0_8) (h : letter_Encode.f k a0_0 a0_1 a0_2 a0_3 a0_4 a0_5 a0_6 l0_7 l0_8 = some (r1, r2)) :
  Calls Try.prog 10 #[.agg #[.int .i64 a0_0, .int .i64 a0_1, .int .i64 a0_2, .int .i64 a0_3, .int .i64 a0_4, .int .i64 a0_5, .string a0_6, .slice A0_7 l0_7.length c0_7, .slice A0_8 l0_8.length c0_8]] w fun e w' => e = .returned (.tuple #[.string r1, .int .i64 r2]) ∧ Below w.heap.size w w' := by
 have hu25 := Try.underlying25
 have hu49 := Try.underlying49
 have hu47 := Try.underlying47
 have HR7 := Aside0.mk hr0_7
 have HC7 := Aside0.mk hc0_7
 have HR8 := Aside0.mk hr0_8
 have HC8 := Aside0.mk hc0_8
 clear hr0_7 hc0_7 hr0_8 hc0_8
 have H : ((letter_Check.f a0_0 a0_1 a0_2 a0_3 a0_4 a0_5 a0_6 l0_7 l0_8).bind fun t => if t = 0 then (if l0_7.length ≤ 1000000 ∧ l0_8.length ≤ 1000000 then pack_Encode.f k ([a0_0, a0_1, a0_2, a0_3, a0_4, a0_5, (l0_7.length : Int)] ++ flagsOf l0_8) ([a0_6] ++ l0_7 ++ pairsOf l0_8) else none) else some ((⟨#[]⟩ : ByteArray), t)) = some (r1, r2) := h
 clear h
 replace H := Option.bind_eq_some_iff.mp H
 obtain ⟨t, A20, H⟩ := H
 replace H : (if t = 0 then (if l0_7.length ≤ 1000000 ∧ l0_8.length ≤ 1000000 then pack_Encode.f k ([a0_0, a0_1, a0_2, a0_3, a0_4, a0_5, (l0_7.length : Int)] ++ flagsOf l0_8) ([a0_6] ++ l0_7 ++ pairsOf l0_8) else none) else some ((⟨#[]⟩ : ByteArray), t)) = some (r1, r2) := H
 have A2 := Aside0.mk A20
 clear A20
 by_cases c3 : t = 0
 ·rw [if_pos c3] at H
  subst c3
  by_cases hl : l0_7.length ≤ 1000000 ∧ l0_8.length ≤ 1000000
  ·rw [if_pos hl] at H
   obtain ⟨hl7, hl8⟩ := hl
   have HPK := Aside0.mk H
   clear H
   go_enter Try.func10, Try.ntmps10
   go_wp2_with (first | ((with_reducible refine gate_dst (N := 1) rfl ?_); refine box_event ?hg (N := 1) ?hd (cs := #[.int .i64 a0_0, .int .i64 a0_1, .int .i64 a0_2, .int .i64 a0_3, .int .i64 a0_4, .int .i64 a0_5, .string a0_6, .slice A0_7 l0_7.length c0_7, .slice A0_8 l0_8.length c0_8]) (t := 25) ?hr ?_; (case hd => rfl); (case hg => rfl); (case hr => first | (go_simp; done) | (go_simp; rfl)); intro gl hgl w1 hbox hb; have HB := Aside0.mk hb; have BL := Aside0.mk hbox; clear hgl hb hbox; have hcz_0 : w1.cell? ⟨gl, 0, none⟩ = some (.int .i64 a0_0) := (blk_cell BL.out 0).trans rfl; have hcz_1 : w1.cell? ⟨gl, 1, none⟩ = some (.int .i64 a0_1) := (blk_cell BL.out 1).trans rfl; have hcz_2 : w1.cell? ⟨gl, 2, none⟩ = some (.int .i64 a0_2) := (blk_cell BL.out 2).trans rfl; have hcz_3 : w1.cell? ⟨gl, 3, none⟩ = some (.int .i64 a0_3) := (blk_cell BL.out 3).trans rfl; have hcz_4 : w1.cell? ⟨gl, 4, none⟩ = some (.int .i64 a0_4) := (blk_cell BL.out 4).trans rfl; have hcz_5 : w1.cell? ⟨gl, 5, none⟩ = some (.int .i64 a0_5) := (blk_cell BL.out 5).trans rfl; have hcz_6 : w1.cell? ⟨gl, 6, none⟩ = some (.string a0_6) := (blk_cell BL.out 6).trans rfl; have hcz_7 : w1.cell? ⟨gl, 7, none⟩ = some (.slice A0_7 l0_7.length c0_7) := (blk_cell BL.out 7).trans rfl; have hcz_8 : w1.cell? ⟨gl, 8, none⟩ = some (.slice A0_8 l0_8.length c0_8) := (blk_cell BL.out 8).trans rfl) | (go_at_call 13; refine (letter_Check.calls a0_0 a0_1 a0_2 a0_3 a0_4 a0_5 a0_6 _ _ l0_7 _ _ l0_8 _ _ (Kd.C_below HR7.out HB.out) HC7.out (Kd.C_below HR8.out HB.out) HC8.out A2.out).mono ?_; rintro e w2 ⟨rfl, hb⟩; have HB2 := Aside0.mk (below_step HB.out hb); have BL2 := Aside0.mk (blk_below BL.out hb); clear hb))
   clear hcz_0 hcz_1 hcz_2 hcz_3 hcz_4 hcz_5 hcz_6 hcz_7 hcz_8 HB BL
   have HB := Aside0.mk (below_drew HB2.out)
   have HL := Aside0.mk (blk_drew BL2.out)
   go_cut [5] from 9 (fun v5 wc => ∃ (gp : Nat) (vN vT : Value), v5 = .pointer (some ⟨gp, 0, none⟩) ∧ Aside0 (PE w wc gl #[.int .i64 a0_0, .int .i64 a0_1, .int .i64 a0_2, .int .i64 a0_3, .int .i64 a0_4, .int .i64 a0_5, .string a0_6, .slice A0_7 l0_7.length c0_7, .slice A0_8 l0_8.length c0_8] gp [a0_0, a0_1, a0_2, a0_3, a0_4, a0_5, (l0_7.length : Int)] ([a0_6] ++ l0_7) vN vT))
   case first =>
    refine wp_region_noPanic ?_
    refine rt_begin (S := (fun W => W.heap[gl]? = some (Obj.cells #[.int .i64 a0_0, .int .i64 a0_1, .int .i64 a0_2, .int .i64 a0_3, .int .i64 a0_4, .int .i64 a0_5, .string a0_6, .slice A0_7 l0_7.length c0_7, .slice A0_8 l0_8.length c0_8] 25 (0, 0)))) (s := 24) (by kernel_rfl) ?_
    refine AnyT.taken (i := 0) (v := ?v1) rfl (by kernel_rfl) (by kernel_rfl) (by kernel_rfl) (by kernel_rfl) (fun _ _ _ h => h) (Or.inl ⟨by rfl, ?y1⟩) ?s1 ?_
    case y1 =>
     intro wSW hSW
     (obtain ⟨k0, k1, k2, k3, k4, k5, k6, k7⟩ := keep8 hSW; go_simp)
     all_goals with_reducible rfl
    case s1 => exact HL.out
    try simp only [Act.put, List.setIfInBounds_toArray, List.set_cons_zero, List.set_cons_succ]
    refine AnyT.taken (i := 1) (v := ?v2) rfl (by kernel_rfl) (by kernel_rfl) (by kernel_rfl) (by kernel_rfl) (fun _ _ _ h => h) (Or.inl ⟨by rfl, ?y2⟩) ?s2 ?_
    case y2 =>
     intro wSW hSW
     (obtain ⟨k0, k1, k2, k3, k4, k5, k6, k7⟩ := keep8 hSW; go_simp)
     all_goals with_reducible rfl
    case s2 => exact HL.out
    try simp only [Act.put, List.setIfInBounds_toArray, List.set_cons_zero, List.set_cons_succ]
    refine AnyT.taken (i := 2) (v := ?v3) rfl (by kernel_rfl) (by kernel_rfl) (by kernel_rfl) (by kernel_rfl) (fun _ _ _ h => h) (Or.inl ⟨by rfl, ?y3⟩) ?s3 ?_
    case y3 =>
     intro wSW hSW
     (obtain ⟨k0, k1, k2, k3, k4, k5, k6, k7⟩ := keep8 hSW; go_simp)
     all_goals with_reducible rfl
    case s3 => exact HL.out
    try simp only [Act.put, List.setIfInBounds_toArray, List.set_cons_zero, List.set_cons_succ]
    refine AnyT.taken (i := 3) (v := ?v4) rfl (by kernel_rfl) (by kernel_rfl) (by kernel_rfl) (by kernel_rfl) (fun _ _ _ h => h) (Or.inl ⟨by rfl, ?y4⟩) ?s4 ?_
    case y4 =>
     intro wSW hSW
     (obtain ⟨k0, k1, k2, k3, k4, k5, k6, k7⟩ := keep8 hSW; go_simp)
     all_goals with_reducible rfl
    case s4 => exact HL.out
    try simp only [Act.put, List.setIfInBounds_toArray, List.set_cons_zero, List.set_cons_succ]
    refine AnyT.taken (i := 4) (v := ?v5) rfl (by kernel_rfl) (by kernel_rfl) (by kernel_rfl) (by kernel_rfl) (fun _ _ _ h => h) (Or.inl ⟨by rfl, ?y5⟩) ?s5 ?_
    case y5 =>
     intro wSW hSW
     (obtain ⟨k0, k1, k2, k3, k4, k5, k6, k7⟩ := keep8 hSW; go_simp)
     all_goals with_reducible rfl
    case s5 => exact HL.out
    try simp only [Act.put, List.setIfInBounds_toArray, List.set_cons_zero, List.set_cons_succ]
    refine AnyT.taken (i := 5) (v := ?v6) rfl (by kernel_rfl) (by kernel_rfl) (by kernel_rfl) (by kernel_rfl) (fun _ _ _ h => h) (Or.inl ⟨by rfl, ?y6⟩) ?s6 ?_
    case y6 =>
     intro wSW hSW
     (obtain ⟨k0, k1, k2, k3, k4, k5, k6, k7⟩ := keep8 hSW; go_simp)
     all_goals with_reducible rfl
    case s6 => exact HL.out
    try simp only [Act.put, List.setIfInBounds_toArray, List.set_cons_zero, List.set_cons_succ]
    refine AnyT.taken (i := 6) (v := ?v7) rfl (by kernel_rfl) (by kernel_rfl) (by kernel_rfl) (by kernel_rfl) (fun _ _ _ h => h) (Or.inl ⟨by rfl, ?y7⟩) ?s7 ?_
    case y7 =>
     intro wSW hSW
     (obtain ⟨k0, k1, k2, k3, k4, k5, k6, k7⟩ := keep8 hSW; go_simp)
     all_goals with_reducible rfl
    case s7 => exact HL.out
    try simp only [Act.put, List.setIfInBounds_toArray, List.set_cons_zero, List.set_cons_succ]
    refine AnyT.taken (i := 7) (v := ?v8) rfl (by kernel_rfl) (by kernel_rfl) (by kernel_rfl) (by kernel_rfl) (fun _ _ _ h => h) (Or.inl ⟨by rfl, ?y8⟩) ?s8 ?_
    case y8 =>
     intro wSW hSW
     (obtain ⟨k0, k1, k2, k3, k4, k5, k6, k7⟩ := keep8 hSW; go_simp)
     all_goals with_reducible rfl
    case s8 => exact HL.out
    try simp only [Act.put, List.setIfInBounds_toArray, List.set_cons_zero, List.set_cons_succ]
    refine AnyT.taken (i := 8) (v := ?v9) rfl (by kernel_rfl) (by kernel_rfl) (by kernel_rfl) (by kernel_rfl) (fun _ _ _ h => h) (Or.inl ⟨by rfl, ?y9⟩) ?s9 ?_
    case y9 =>
     intro wSW hSW
     (obtain ⟨k0, k1, k2, k3, k4, k5, k6, k7⟩ := keep8 hSW; go_simp)
     all_goals with_reducible rfl
    case s9 => exact HL.out
    try simp only [Act.put, List.setIfInBounds_toArray, List.set_cons_zero, List.set_cons_succ]
    refine AnyT.taken (i := 9) (v := ?v10) rfl (by kernel_rfl) (by kernel_rfl) (by kernel_rfl) (by kernel_rfl) (fun _ _ _ h => h) (Or.inl ⟨by rfl, ?y10⟩) ?s10 ?_
    case y10 =>
     intro wSW hSW
     (obtain ⟨k0, k1, k2, k3, k4, k5, k6, k7⟩ := keep8 hSW; go_simp)
     all_goals with_reducible rfl
    case s10 => exact HL.out
    try simp only [Act.put, List.setIfInBounds_toArray, List.set_cons_zero, List.set_cons_succ]
    refine AnyT.taken (i := 10) (v := ?v11) rfl (by kernel_rfl) (by kernel_rfl) (by kernel_rfl) (by kernel_rfl) (fun _ _ _ h => h) (Or.inl ⟨by rfl, ?y11⟩) ?s11 ?_
    case y11 =>
     intro wSW hSW
     (obtain ⟨k0, k1, k2, k3, k4, k5, k6, k7⟩ := keep8 hSW; go_simp)
     all_goals with_reducible rfl
    case s11 => exact HL.out
    try simp only [Act.put, List.setIfInBounds_toArray, List.set_cons_zero, List.set_cons_succ]
    refine AnyT.taken (i := 11) (v := ?v12) rfl (by kernel_rfl) (by kernel_rfl) (by kernel_rfl) (by kernel_rfl) (fun _ _ _ h => h) (Or.inl ⟨by rfl, ?y12⟩) ?s12 ?_
    case y12 =>
     intro wSW hSW
     (obtain ⟨k0, k1, k2, k3, k4, k5, k6, k7⟩ := keep8 hSW; go_simp)
     all_goals with_reducible rfl
    case s12 => exact HL.out
    try simp only [Act.put, List.setIfInBounds_toArray, List.set_cons_zero, List.set_cons_succ]
    refine AnyT.taken (i := 12) (v := ?v13) rfl (by kernel_rfl) (by kernel_rfl) (by kernel_rfl) (by kernel_rfl) (fun _ _ _ h => h) (Or.inl ⟨by rfl, ?y13⟩) ?s13 ?_
    case y13 =>
     intro wSW hSW
     (obtain ⟨k0, k1, k2, k3, k4, k5, k6, k7⟩ := keep8 hSW; go_simp)
     all_goals with_reducible rfl
    case s13 => exact HL.out
    try simp only [Act.put, List.setIfInBounds_toArray, List.set_cons_zero, List.set_cons_succ]
    refine AnyT.taken (i := 13) (v := ?v14) rfl (by kernel_rfl) (by kernel_rfl) (by kernel_rfl) (by kernel_rfl) (fun _ _ _ h => h) (Or.inl ⟨by rfl, ?y14⟩) ?s14 ?_
    case y14 =>
     intro wSW hSW
     (obtain ⟨k0, k1, k2, k3, k4, k5, k6, k7⟩ := keep8 hSW; go_simp)
     all_goals with_reducible rfl
    case s14 => exact HL.out
    try simp only [Act.put, List.setIfInBounds_toArray, List.set_cons_zero, List.set_cons_succ]
    refine AnyT.taken (i := 14) (v := ?v15) rfl (by kernel_rfl) (by kernel_rfl) (by kernel_rfl) (by kernel_rfl) (fun _ _ _ h => h) (Or.inl ⟨by rfl, ?y15⟩) ?s15 ?_
    case y15 =>
     intro wSW hSW
     (obtain ⟨k0, k1, k2, k3, k4, k5, k6, k7⟩ := keep8 hSW; go_simp)
     all_goals with_reducible rfl
    case s15 => exact HL.out
    try simp only [Act.put, List.setIfInBounds_toArray, List.set_cons_zero, List.set_cons_succ]
    refine AnyT.taken (i := 16) (v := ?v16) rfl (by kernel_rfl) (by kernel_rfl) (by kernel_rfl) (by kernel_rfl) (fun _ _ _ h => h) (Or.inl ⟨by rfl, ?y16⟩) ?s16 ?_
    case y16 =>
     intro wSW hSW
     (obtain ⟨k0, k1, k2, k3, k4, k5, k6, k7⟩ := keep8 hSW; go_simp)
     all_goals with_reducible rfl
    case s16 => exact HL.out
    try simp only [Act.put, List.setIfInBounds_toArray, List.set_cons_zero, List.set_cons_succ]
    refine AnyT.taken (i := 17) (v := ?v17) rfl (by kernel_rfl) (by kernel_rfl) (by kernel_rfl) (by kernel_rfl) (fun _ _ _ h => h) (Or.inl ⟨by rfl, ?y17⟩) ?s17 ?_
    case y17 =>
     intro wSW hSW
     (obtain ⟨k0, k1, k2, k3, k4, k5, k6, k7⟩ := keep8 hSW; go_simp)
     all_goals with_reducible rfl
    case s17 => exact HL.out
    try simp only [Act.put, List.setIfInBounds_toArray, List.set_cons_zero, List.set_cons_succ]
    refine AnyT.taken (i := 19) (v := ?v18) rfl (by kernel_rfl) (by kernel_rfl) (by kernel_rfl) (by kernel_rfl) (fun _ _ _ h => h) (Or.inl ⟨by rfl, ?y18⟩) ?s18 ?_
    case y18 =>
     intro wSW hSW
     (obtain ⟨k0, k1, k2, k3, k4, k5, k6, k7⟩ := keep8 hSW; go_simp)
     all_goals with_reducible rfl
    case s18 => exact HL.out
    try simp only [Act.put, List.setIfInBounds_toArray, List.set_cons_zero, List.set_cons_succ]
    refine AnyT.taken (i := 20) (v := ?v19) rfl (by kernel_rfl) (by kernel_rfl) (by kernel_rfl) (by kernel_rfl) (fun _ _ _ h => h) (Or.inl ⟨by rfl, ?y19⟩) ?s19 ?_
    case y19 =>
     intro wSW hSW
     (obtain ⟨k0, k1, k2, k3, k4, k5, k6, k7⟩ := keep8 hSW; go_simp)
     all_goals with_reducible rfl
    case s19 => exact HL.out
    try simp only [Act.put, List.setIfInBounds_toArray, List.set_cons_zero, List.set_cons_succ]
    refine AnyT.ready (rs := [15, 18, 23]) (by kernel_rfl) (by simp) (AllT.step rfl (fun K hK => ?b2015) (AllT.step rfl (fun K hK => ?b2018) (AllT.step rfl (fun K hK => ?b2023) AllT.nil)))
    case b2015 =>
     (refine Kd.R_lit_step (Kd.int .i64) (w0 := w) w.heap.size 3 (by rfl) (N := 29) (by rfl) (xs := [a0_0, a0_1, a0_2, a0_3, a0_4, a0_5, (l0_7.length : Int)]) (inner := [.int .i64 a0_0, .int .i64 a0_1, .int .i64 a0_2, .int .i64 a0_3, .int .i64 a0_4, .int .i64 a0_5, .int .i64 (l0_7.length : Int)]) (ok := fun _ => True) (okp := fun _ => True) ?hr (reps_ints _ _ _ [a0_0, a0_1, a0_2, a0_3, a0_4, a0_5, (l0_7.length : Int)]) (fun _ h => h) trivial HB.out HB.out.size (by simp) ?_; (case hr => first | (go_simp; done) | (go_simp; rfl)); intro vx w9 ho hb hg hat; (try replace FN := Aside0.mk (Kd.R_grown FN.out hg (fun _ _ => by simp))); (try replace FT := Aside0.mk (Kd.R_grown FT.out hg (fun _ _ => by simp))); (try replace FZ := Aside0.mk (blk_grown FZ.out hg (by simp))); replace HL := Aside0.mk (blk_grown HL.out hg (by simp)); replace HB := Aside0.mk hb; obtain ⟨A29, c29, e9⟩ := Kd.R_slice ho; subst e9; have FN := Aside0.mk ho; clear ho hb hg hat)
     refine hK.out _ _ ?_ ?_
     ·intro _; exact HL.out
     clear hK K
     try simp only [Act.put, List.setIfInBounds_toArray, List.set_cons_zero, List.set_cons_succ]
     refine AnyT.ready (rs := [18, 23]) (by kernel_rfl) (by simp) (AllT.step rfl (fun K hK => ?b2218) (AllT.step rfl (fun K hK => ?b2223) AllT.nil))
     case b2218 =>
      (refine Kd.R_lit_step Kd.string (w0 := w) w.heap.size 9 (by rfl) (N := 32) (by rfl) (xs := [a0_6]) (inner := [.string a0_6]) (ok := fun _ => True) (okp := fun _ => True) ?hr (reps_texts _ _ _ [a0_6]) (fun _ h => h) trivial HB.out HB.out.size (by simp) ?_; (case hr => first | (go_simp; done) | (go_simp; rfl)); intro vx w9 ho hb hg hat; (try replace FN := Aside0.mk (Kd.R_grown FN.out hg (fun _ _ => by simp))); (try replace FT := Aside0.mk (Kd.R_grown FT.out hg (fun _ _ => by simp))); (try replace FZ := Aside0.mk (blk_grown FZ.out hg (by simp))); replace HL := Aside0.mk (blk_grown HL.out hg (by simp)); replace HB := Aside0.mk hb; obtain ⟨A32, c32, e9⟩ := Kd.R_slice ho; subst e9; have FT := Aside0.mk ho; clear ho hb hg hat)
      refine hK.out _ _ ?_ ?_
      ·intro _; exact HL.out
      clear hK K
      try simp only [Act.put, List.setIfInBounds_toArray, List.set_cons_zero, List.set_cons_succ]
      refine AnyT.ready (rs := [21, 23]) (by kernel_rfl) (by simp) (AllT.step rfl (fun K hK => ?b2421) (AllT.step rfl (fun K hK => ?b2423) AllT.nil))
      case b2421 =>
       (refine Kd.R_append_rows_step Kd.string (w0 := w) w.heap.size (by rfl) (.tmp 32) (.tmp 34) 22 9 (.string ⟨#[]⟩) 16 (by rfl) Try.underlying22 info9 rfl (by decide) (by omega) (.slice A32 1 c32) [a0_6] l0_7 _ _ _ (fun _ => True) (fun _ => False) (by rfl) (by rfl) FT.out (Kd.C_below HR7.out HB.out) (fun _ _ h => h) (fun _ h => h.elim) (fun _ _ => trivial) HB.out HB.out.size (by simp only [List.length_cons, List.length_nil]; omega) ?_; intro vx w9 ho hb hg hat; (try replace FN := Aside0.mk (Kd.R_over FN.out FT.out (by decide) hg)); (try replace FZ := Aside0.mk (blk_grown FZ.out hg (Kd.R_ne FT.out FZ.out (by decide)))); replace HL := Aside0.mk (blk_grown HL.out hg (Kd.R_ne FT.out HL.out (by decide))); replace HB := Aside0.mk hb; obtain ⟨A35, c35, e9⟩ := Kd.R_slice ho; subst e9; replace FT := Aside0.mk ho; clear ho hb hg hat)
       refine hK.out _ _ ?_ ?_
       ·intro _; exact HL.out
       clear hK K
       try simp only [Act.put, List.setIfInBounds_toArray, List.set_cons_zero, List.set_cons_succ]
       refine AnyT.taken (i := 22) (v := ?v26) rfl (by kernel_rfl) (by kernel_rfl) (by kernel_rfl) (by kernel_rfl) (fun _ _ _ h => h) (Or.inl ⟨by rfl, ?y26⟩) ?s26 ?_
       case y26 =>
        intro wSW hSW
        (obtain ⟨k0, k1, k2, k3, k4, k5, k6, k7⟩ := keep8 hSW; go_simp)
        all_goals with_reducible rfl
       case s26 => exact HL.out
       try simp only [Act.put, List.setIfInBounds_toArray, List.set_cons_zero, List.set_cons_succ]
       refine AnyT.ready (rs := [23]) (by kernel_rfl) (by simp) (AllT.step rfl (fun K hK => ?b2723) AllT.nil)
       case b2723 =>
        (refine step_alloc (ob := .cells #[.slice none 0 0, .slice none 0 0] 47) (by rfl) ?hr ?_; (case hr => first | (go_simp; done) | (go_simp; rfl)); intro w9 gz hq hge hb; have FG : Aside0 (w.heap.size ≤ gz) := ⟨Nat.le_trans HB.out.size hge⟩; (try replace FN := Aside0.mk (Kd.R_below FN.out hb)); (try replace FT := Aside0.mk (Kd.R_below FT.out hb)); (try replace FZ := Aside0.mk (blk_below FZ.out hb)); replace HL := Aside0.mk (blk_below HL.out hb); replace HB := Aside0.mk (below_step HB.out hb); have FZ := Aside0.mk hq; clear hq hge hb)
        refine hK.out _ _ ?_ ?_
        ·intro _; exact HL.out
        clear hK K
        try simp only [Act.put, List.setIfInBounds_toArray, List.set_cons_zero, List.set_cons_succ]
        refine AnyT.ready (rs := [24]) (by kernel_rfl) (by simp) (AllT.step rfl (fun K hK => ?b2924) AllT.nil)
        case b2924 =>
         (have hs0 := (blk_cell FZ.out 0).trans rfl; have hs1 := (blk_cell FZ.out 1).trans rfl; have hf0 := blk_frozen FZ.out 0; have hf1 := blk_frozen FZ.out 1; go_simp)
         refine hK.out _ _ ?_ ?_
         ·exact past (by kernel_rfl)
         clear hK K
         try simp only [Act.put, List.setIfInBounds_toArray, List.set_cons_zero, List.set_cons_succ]
         refine AnyT.done (by kernel_rfl) ?_ _
         refine NoPanic.normal ?_
         (go_wp2; go_meet)
         (case rel => exact ⟨gz, .slice A29 7 c29, .slice A35 (l0_7.length + 1) c35, rfl, ⟨PE.of (vN' := .slice none 0 0) (vT' := .slice none 0 0) HL.out HB.out FN.out FT.out FZ.out FG.out⟩⟩)
      case b2423 =>
       (refine step_alloc (ob := .cells #[.slice none 0 0, .slice none 0 0] 47) (by rfl) ?hr ?_; (case hr => first | (go_simp; done) | (go_simp; rfl)); intro w9 gz hq hge hb; have FG : Aside0 (w.heap.size ≤ gz) := ⟨Nat.le_trans HB.out.size hge⟩; (try replace FN := Aside0.mk (Kd.R_below FN.out hb)); (try replace FT := Aside0.mk (Kd.R_below FT.out hb)); (try replace FZ := Aside0.mk (blk_below FZ.out hb)); replace HL := Aside0.mk (blk_below HL.out hb); replace HB := Aside0.mk (below_step HB.out hb); have FZ := Aside0.mk hq; clear hq hge hb)
       refine hK.out _ _ ?_ ?_
       ·intro _; exact HL.out
       clear hK K
       try simp only [Act.put, List.setIfInBounds_toArray, List.set_cons_zero, List.set_cons_succ]
       refine AnyT.ready (rs := [21]) (by kernel_rfl) (by simp) (AllT.step rfl (fun K hK => ?b3321) AllT.nil)
       case b3321 =>
        (refine Kd.R_append_rows_step Kd.string (w0 := w) w.heap.size (by rfl) (.tmp 32) (.tmp 34) 22 9 (.string ⟨#[]⟩) 16 (by rfl) Try.underlying22 info9 rfl (by decide) (by omega) (.slice A32 1 c32) [a0_6] l0_7 _ _ _ (fun _ => True) (fun _ => False) (by rfl) (by rfl) FT.out (Kd.C_below HR7.out HB.out) (fun _ _ h => h) (fun _ h => h.elim) (fun _ _ => trivial) HB.out HB.out.size (by simp only [List.length_cons, List.length_nil]; omega) ?_; intro vx w9 ho hb hg hat; (try replace FN := Aside0.mk (Kd.R_over FN.out FT.out (by decide) hg)); (try replace FZ := Aside0.mk (blk_grown FZ.out hg (Kd.R_ne FT.out FZ.out (by decide)))); replace HL := Aside0.mk (blk_grown HL.out hg (Kd.R_ne FT.out HL.out (by decide))); replace HB := Aside0.mk hb; obtain ⟨A35, c35, e9⟩ := Kd.R_slice ho; subst e9; replace FT := Aside0.mk ho; clear ho hb hg hat)
        refine hK.out _ _ ?_ ?_
        ·intro _; exact HL.out
        clear hK K
        try simp only [Act.put, List.setIfInBounds_toArray, List.set_cons_zero, List.set_cons_succ]
        refine AnyT.taken (i := 22) (v := ?v35) rfl (by kernel_rfl) (by kernel_rfl) (by kernel_rfl) (by kernel_rfl) (fun _ _ _ h => h) (Or.inl ⟨by rfl, ?y35⟩) ?s35 ?_
        case y35 =>
         intro wSW hSW
         (obtain ⟨k0, k1, k2, k3, k4, k5, k6, k7⟩ := keep8 hSW; go_simp)
         all_goals with_reducible rfl
        case s35 => exact HL.out
        try simp only [Act.put, List.setIfInBounds_toArray, List.set_cons_zero, List.set_cons_succ]
        refine AnyT.ready (rs := [24]) (by kernel_rfl) (by simp) (AllT.step rfl (fun K hK => ?b3624) AllT.nil)
        case b3624 =>
         (have hs0 := (blk_cell FZ.out 0).trans rfl; have hs1 := (blk_cell FZ.out 1).trans rfl; have hf0 := blk_frozen FZ.out 0; have hf1 := blk_frozen FZ.out 1; go_simp)
         refine hK.out _ _ ?_ ?_
         ·exact past (by kernel_rfl)
         clear hK K
         try simp only [Act.put, List.setIfInBounds_toArray, List.set_cons_zero, List.set_cons_succ]
         refine AnyT.done (by kernel_rfl) ?_ _
         refine NoPanic.normal ?_
         (go_wp2; go_meet)
         (case rel => exact ⟨gz, .slice A29 7 c29, .slice A35 (l0_7.length + 1) c35, rfl, ⟨PE.of (vN' := .slice none 0 0) (vT' := .slice none 0 0) HL.out HB.out FN.out FT.out FZ.out FG.out⟩⟩)
     case b2223 =>
      (refine step_alloc (ob := .cells #[.slice none 0 0, .slice none 0 0] 47) (by rfl) ?hr ?_; (case hr => first | (go_simp; done) | (go_simp; rfl)); intro w9 gz hq hge hb; have FG : Aside0 (w.heap.size ≤ gz) := ⟨Nat.le_trans HB.out.size hge⟩; (try replace FN := Aside0.mk (Kd.R_below FN.out hb)); (try replace FT := Aside0.mk (Kd.R_below FT.out hb)); (try replace FZ := Aside0.mk (blk_below FZ.out hb)); replace HL := Aside0.mk (blk_below HL.out hb); replace HB := Aside0.mk (below_step HB.out hb); have FZ := Aside0.mk hq; clear hq hge hb)
      refine hK.out _ _ ?_ ?_
      ·intro _; exact HL.out
      clear hK K
      try simp only [Act.put, List.setIfInBounds_toArray, List.set_cons_zero, List.set_cons_succ]
      refine AnyT.ready (rs := [18]) (by kernel_rfl) (by simp) (AllT.step rfl (fun K hK => ?b4018) AllT.nil)
      case b4018 =>
       (refine Kd.R_lit_step Kd.string (w0 := w) w.heap.size 9 (by rfl) (N := 32) (by rfl) (xs := [a0_6]) (inner := [.string a0_6]) (ok := fun _ => True) (okp := fun _ => True) ?hr (reps_texts _ _ _ [a0_6]) (fun _ h => h) trivial HB.out HB.out.size (by simp) ?_; (case hr => first | (go_simp; done) | (go_simp; rfl)); intro vx w9 ho hb hg hat; (try replace FN := Aside0.mk (Kd.R_grown FN.out hg (fun _ _ => by simp))); (try replace FT := Aside0.mk (Kd.R_grown FT.out hg (fun _ _ => by simp))); (try replace FZ := Aside0.mk (blk_grown FZ.out hg (by simp))); replace HL := Aside0.mk (blk_grown HL.out hg (by simp)); replace HB := Aside0.mk hb; obtain ⟨A32, c32, e9⟩ := Kd.R_slice ho; subst e9; have FT := Aside0.mk ho; clear ho hb hg hat)
       refine hK.out _ _ ?_ ?_
       ·intro _; exact HL.out
       clear hK K
       try simp only [Act.put, List.setIfInBounds_toArray, List.set_cons_zero, List.set_cons_succ]
       refine AnyT.ready (rs := [21]) (by kernel_rfl) (by simp) (AllT.step rfl (fun K hK => ?b4221) AllT.nil)
       case b4221 =>
        (refine Kd.R_append_rows_step Kd.string (w0 := w) w.heap.size (by rfl) (.tmp 32) (.tmp 34) 22 9 (.string ⟨#[]⟩) 16 (by rfl) Try.underlying22 info9 rfl (by decide) (by omega) (.slice A32 1 c32) [a0_6] l0_7 _ _ _ (fun _ => True) (fun _ => False) (by rfl) (by rfl) FT.out (Kd.C_below HR7.out HB.out) (fun _ _ h => h) (fun _ h => h.elim) (fun _ _ => trivial) HB.out HB.out.size (by simp only [List.length_cons, List.length_nil]; omega) ?_; intro vx w9 ho hb hg hat; (try replace FN := Aside0.mk (Kd.R_over FN.out FT.out (by decide) hg)); (try replace FZ := Aside0.mk (blk_grown FZ.out hg (Kd.R_ne FT.out FZ.out (by decide)))); replace HL := Aside0.mk (blk_grown HL.out hg (Kd.R_ne FT.out HL.out (by decide))); replace HB := Aside0.mk hb; obtain ⟨A35, c35, e9⟩ := Kd.R_slice ho; subst e9; replace FT := Aside0.mk ho; clear ho hb hg hat)
        refine hK.out _ _ ?_ ?_
        ·intro _; exact HL.out
        clear hK K
        try simp only [Act.put, List.setIfInBounds_toArray, List.set_cons_zero, List.set_cons_succ]
        refine AnyT.taken (i := 22) (v := ?v44) rfl (by kernel_rfl) (by kernel_rfl) (by kernel_rfl) (by kernel_rfl) (fun _ _ _ h => h) (Or.inl ⟨by rfl, ?y44⟩) ?s44 ?_
        case y44 =>
         intro wSW hSW
         (obtain ⟨k0, k1, k2, k3, k4, k5, k6, k7⟩ := keep8 hSW; go_simp)
         all_goals with_reducible rfl
        case s44 => exact HL.out
        try simp only [Act.put, List.setIfInBounds_toArray, List.set_cons_zero, List.set_cons_succ]
        refine AnyT.ready (rs := [24]) (by kernel_rfl) (by simp) (AllT.step rfl (fun K hK => ?b4524) AllT.nil)
        case b4524 =>
         (have hs0 := (blk_cell FZ.out 0).trans rfl; have hs1 := (blk_cell FZ.out 1).trans rfl; have hf0 := blk_frozen FZ.out 0; have hf1 := blk_frozen FZ.out 1; go_simp)
         refine hK.out _ _ ?_ ?_
         ·exact past (by kernel_rfl)
         clear hK K
         try simp only [Act.put, List.setIfInBounds_toArray, List.set_cons_zero, List.set_cons_succ]
         refine AnyT.done (by kernel_rfl) ?_ _
         refine NoPanic.normal ?_
         (go_wp2; go_meet)
         (case rel => exact ⟨gz, .slice A29 7 c29, .slice A35 (l0_7.length + 1) c35, rfl, ⟨PE.of (vN' := .slice none 0 0) (vT' := .slice none 0 0) HL.out HB.out FN.out FT.out FZ.out FG.out⟩⟩)
    case b2018 =>
     (refine Kd.R_lit_step Kd.string (w0 := w) w.heap.size 9 (by rfl) (N := 32) (by rfl) (xs := [a0_6]) (inner := [.string a0_6]) (ok := fun _ => True) (okp := fun _ => True) ?hr (reps_texts _ _ _ [a0_6]) (fun _ h => h) trivial HB.out HB.out.size (by simp) ?_; (case hr => first | (go_simp; done) | (go_simp; rfl)); intro vx w9 ho hb hg hat; (try replace FN := Aside0.mk (Kd.R_grown FN.out hg (fun _ _ => by simp))); (try replace FT := Aside0.mk (Kd.R_grown FT.out hg (fun _ _ => by simp))); (try replace FZ := Aside0.mk (blk_grown FZ.out hg (by simp))); replace HL := Aside0.mk (blk_grown HL.out hg (by simp)); replace HB := Aside0.mk hb; obtain ⟨A32, c32, e9⟩ := Kd.R_slice ho; subst e9; have FT := Aside0.mk ho; clear ho hb hg hat)
     refine hK.out _ _ ?_ ?_
     ·intro _; exact HL.out
     clear hK K
     try simp only [Act.put, List.setIfInBounds_toArray, List.set_cons_zero, List.set_cons_succ]
     refine AnyT.ready (rs := [15, 21, 23]) (by kernel_rfl) (by simp) (AllT.step rfl (fun K hK => ?b4915) (AllT.step rfl (fun K hK => ?b4921) (AllT.step rfl (fun K hK => ?b4923) AllT.nil)))
     case b4915 =>
      (refine Kd.R_lit_step (Kd.int .i64) (w0 := w) w.heap.size 3 (by rfl) (N := 29) (by rfl) (xs := [a0_0, a0_1, a0_2, a0_3, a0_4, a0_5, (l0_7.length : Int)]) (inner := [.int .i64 a0_0, .int .i64 a0_1, .int .i64 a0_2, .int .i64 a0_3, .int .i64 a0_4, .int .i64 a0_5, .int .i64 (l0_7.length : Int)]) (ok := fun _ => True) (okp := fun _ => True) ?hr (reps_ints _ _ _ [a0_0, a0_1, a0_2, a0_3, a0_4, a0_5, (l0_7.length : Int)]) (fun _ h => h) trivial HB.out HB.out.size (by simp) ?_; (case hr => first | (go_simp; done) | (go_simp; rfl)); intro vx w9 ho hb hg hat; (try replace FN := Aside0.mk (Kd.R_grown FN.out hg (fun _ _ => by simp))); (try replace FT := Aside0.mk (Kd.R_grown FT.out hg (fun _ _ => by simp))); (try replace FZ := Aside0.mk (blk_grown FZ.out hg (by simp))); replace HL := Aside0.mk (blk_grown HL.out hg (by simp)); replace HB := Aside0.mk hb; obtain ⟨A29, c29, e9⟩ := Kd.R_slice ho; subst e9; have FN := Aside0.mk ho; clear ho hb hg hat)
      refine hK.out _ _ ?_ ?_
      ·intro _; exact HL.out
      clear hK K
      try simp only [Act.put, List.setIfInBounds_toArray, List.set_cons_zero, List.set_cons_succ]
      refine AnyT.ready (rs := [21, 23]) (by kernel_rfl) (by simp) (AllT.step rfl (fun K hK => ?b5121) (AllT.step rfl (fun K hK => ?b5123) AllT.nil))
      case b5121 =>
       (refine Kd.R_append_rows_step Kd.string (w0 := w) w.heap.size (by rfl) (.tmp 32) (.tmp 34) 22 9 (.string ⟨#[]⟩) 16 (by rfl) Try.underlying22 info9 rfl (by decide) (by omega) (.slice A32 1 c32) [a0_6] l0_7 _ _ _ (fun _ => True) (fun _ => False) (by rfl) (by rfl) FT.out (Kd.C_below HR7.out HB.out) (fun _ _ h => h) (fun _ h => h.elim) (fun _ _ => trivial) HB.out HB.out.size (by simp only [List.length_cons, List.length_nil]; omega) ?_; intro vx w9 ho hb hg hat; (try replace FN := Aside0.mk (Kd.R_over FN.out FT.out (by decide) hg)); (try replace FZ := Aside0.mk (blk_grown FZ.out hg (Kd.R_ne FT.out FZ.out (by decide)))); replace HL := Aside0.mk (blk_grown HL.out hg (Kd.R_ne FT.out HL.out (by decide))); replace HB := Aside0.mk hb; obtain ⟨A35, c35, e9⟩ := Kd.R_slice ho; subst e9; replace FT := Aside0.mk ho; clear ho hb hg hat)
       refine hK.out _ _ ?_ ?_
       ·intro _; exact HL.out
       clear hK K
       try simp only [Act.put, List.setIfInBounds_toArray, List.set_cons_zero, List.set_cons_succ]
       refine AnyT.taken (i := 22) (v := ?v53) rfl (by kernel_rfl) (by kernel_rfl) (by kernel_rfl) (by kernel_rfl) (fun _ _ _ h => h) (Or.inl ⟨by rfl, ?y53⟩) ?s53 ?_
       case y53 =>
        intro wSW hSW
        (obtain ⟨k0, k1, k2, k3, k4, k5, k6, k7⟩ := keep8 hSW; go_simp)
        all_goals with_reducible rfl
       case s53 => exact HL.out
       try simp only [Act.put, List.setIfInBounds_toArray, List.set_cons_zero, List.set_cons_succ]
       refine AnyT.ready (rs := [23]) (by kernel_rfl) (by simp) (AllT.step rfl (fun K hK => ?b5423) AllT.nil)
       case b5423 =>
        (refine step_alloc (ob := .cells #[.slice none 0 0, .slice none 0 0] 47) (by rfl) ?hr ?_; (case hr => first | (go_simp; done) | (go_simp; rfl)); intro w9 gz hq hge hb; have FG : Aside0 (w.heap.size ≤ gz) := ⟨Nat.le_trans HB.out.size hge⟩; (try replace FN := Aside0.mk (Kd.R_below FN.out hb)); (try replace FT := Aside0.mk (Kd.R_below FT.out hb)); (try replace FZ := Aside0.mk (blk_below FZ.out hb)); replace HL := Aside0.mk (blk_below HL.out hb); replace HB := Aside0.mk (below_step HB.out hb); have FZ := Aside0.mk hq; clear hq hge hb)
        refine hK.out _ _ ?_ ?_
        ·intro _; exact HL.out
        clear hK K
        try simp only [Act.put, List.setIfInBounds_toArray, List.set_cons_zero, List.set_cons_succ]
        refine AnyT.ready (rs := [24]) (by kernel_rfl) (by simp) (AllT.step rfl (fun K hK => ?b5624) AllT.nil)
        case b5624 =>
         (have hs0 := (blk_cell FZ.out 0).trans rfl; have hs1 := (blk_cell FZ.out 1).trans rfl; have hf0 := blk_frozen FZ.out 0; have hf1 := blk_frozen FZ.out 1; go_simp)
         refine hK.out _ _ ?_ ?_
         ·exact past (by kernel_rfl)
         clear hK K
         try simp only [Act.put, List.setIfInBounds_toArray, List.set_cons_zero, List.set_cons_succ]
         refine AnyT.done (by kernel_rfl) ?_ _
         refine NoPanic.normal ?_
         (go_wp2; go_meet)
         (case rel => exact ⟨gz, .slice A29 7 c29, .slice A35 (l0_7.length + 1) c35, rfl, ⟨PE.of (vN' := .slice none 0 0) (vT' := .slice none 0 0) HL.out HB.out FN.out FT.out FZ.out FG.out⟩⟩)
      case b5123 =>
       (refine step_alloc (ob := .cells #[.slice none 0 0, .slice none 0 0] 47) (by rfl) ?hr ?_; (case hr => first | (go_simp; done) | (go_simp; rfl)); intro w9 gz hq hge hb; have FG : Aside0 (w.heap.size ≤ gz) := ⟨Nat.le_trans HB.out.size hge⟩; (try replace FN := Aside0.mk (Kd.R_below FN.out hb)); (try replace FT := Aside0.mk (Kd.R_below FT.out hb)); (try replace FZ := Aside0.mk (blk_below FZ.out hb)); replace HL := Aside0.mk (blk_below HL.out hb); replace HB := Aside0.mk (below_step HB.out hb); have FZ := Aside0.mk hq; clear hq hge hb)
       refine hK.out _ _ ?_ ?_
       ·intro _; exact HL.out
       clear hK K
       try simp only [Act.put, List.setIfInBounds_toArray, List.set_cons_zero, List.set_cons_succ]
       refine AnyT.ready (rs := [21]) (by kernel_rfl) (by simp) (AllT.step rfl (fun K hK => ?b6021) AllT.nil)
       case b6021 =>
        (refine Kd.R_append_rows_step Kd.string (w0 := w) w.heap.size (by rfl) (.tmp 32) (.tmp 34) 22 9 (.string ⟨#[]⟩) 16 (by rfl) Try.underlying22 info9 rfl (by decide) (by omega) (.slice A32 1 c32) [a0_6] l0_7 _ _ _ (fun _ => True) (fun _ => False) (by rfl) (by rfl) FT.out (Kd.C_below HR7.out HB.out) (fun _ _ h => h) (fun _ h => h.elim) (fun _ _ => trivial) HB.out HB.out.size (by simp only [List.length_cons, List.length_nil]; omega) ?_; intro vx w9 ho hb hg hat; (try replace FN := Aside0.mk (Kd.R_over FN.out FT.out (by decide) hg)); (try replace FZ := Aside0.mk (blk_grown FZ.out hg (Kd.R_ne FT.out FZ.out (by decide)))); replace HL := Aside0.mk (blk_grown HL.out hg (Kd.R_ne FT.out HL.out (by decide))); replace HB := Aside0.mk hb; obtain ⟨A35, c35, e9⟩ := Kd.R_slice ho; subst e9; replace FT := Aside0.mk ho; clear ho hb hg hat)
        refine hK.out _ _ ?_ ?_
        ·intro _; exact HL.out
        clear hK K
        try simp only [Act.put, List.setIfInBounds_toArray, List.set_cons_zero, List.set_cons_succ]
        refine AnyT.taken (i := 22) (v := ?v62) rfl (by kernel_rfl) (by kernel_rfl) (by kernel_rfl) (by kernel_rfl) (fun _ _ _ h => h) (Or.inl ⟨by rfl, ?y62⟩) ?s62 ?_
        case y62 =>
         intro wSW hSW
         (obtain ⟨k0, k1, k2, k3, k4, k5, k6, k7⟩ := keep8 hSW; go_simp)
         all_goals with_reducible rfl
        case s62 => exact HL.out
        try simp only [Act.put, List.setIfInBounds_toArray, List.set_cons_zero, List.set_cons_succ]
        refine AnyT.ready (rs := [24]) (by kernel_rfl) (by simp) (AllT.step rfl (fun K hK => ?b6324) AllT.nil)
        case b6324 =>
         (have hs0 := (blk_cell FZ.out 0).trans rfl; have hs1 := (blk_cell FZ.out 1).trans rfl; have hf0 := blk_frozen FZ.out 0; have hf1 := blk_frozen FZ.out 1; go_simp)
         refine hK.out _ _ ?_ ?_
         ·exact past (by kernel_rfl)
         clear hK K
         try simp only [Act.put, List.setIfInBounds_toArray, List.set_cons_zero, List.set_cons_succ]
         refine AnyT.done (by kernel_rfl) ?_ _
         refine NoPanic.normal ?_
         (go_wp2; go_meet)
         (case rel => exact ⟨gz, .slice A29 7 c29, .slice A35 (l0_7.length + 1) c35, rfl, ⟨PE.of (vN' := .slice none 0 0) (vT' := .slice none 0 0) HL.out HB.out FN.out FT.out FZ.out FG.out⟩⟩)
     case b4921 =>
      (refine Kd.R_append_rows_step Kd.string (w0 := w) w.heap.size (by rfl) (.tmp 32) (.tmp 34) 22 9 (.string ⟨#[]⟩) 16 (by rfl) Try.underlying22 info9 rfl (by decide) (by omega) (.slice A32 1 c32) [a0_6] l0_7 _ _ _ (fun _ => True) (fun _ => False) (by rfl) (by rfl) FT.out (Kd.C_below HR7.out HB.out) (fun _ _ h => h) (fun _ h => h.elim) (fun _ _ => trivial) HB.out HB.out.size (by simp only [List.length_cons, List.length_nil]; omega) ?_; intro vx w9 ho hb hg hat; (try replace FN := Aside0.mk (Kd.R_over FN.out FT.out (by decide) hg)); (try replace FZ := Aside0.mk (blk_grown FZ.out hg (Kd.R_ne FT.out FZ.out (by decide)))); replace HL := Aside0.mk (blk_grown HL.out hg (Kd.R_ne FT.out HL.out (by decide))); replace HB := Aside0.mk hb; obtain ⟨A35, c35, e9⟩ := Kd.R_slice ho; subst e9; replace FT := Aside0.mk ho; clear ho hb hg hat)
      refine hK.out _ _ ?_ ?_
      ·intro _; exact HL.out
      clear hK K
      try simp only [Act.put, List.setIfInBounds_toArray, List.set_cons_zero, List.set_cons_succ]
      refine AnyT.ready (rs := [15, 23]) (by kernel_rfl) (by simp) (AllT.step rfl (fun K hK => ?b6715) (AllT.step rfl (fun K hK => ?b6723) AllT.nil))
      case b6715 =>
       (refine Kd.R_lit_step (Kd.int .i64) (w0 := w) w.heap.size 3 (by rfl) (N := 29) (by rfl) (xs := [a0_0, a0_1, a0_2, a0_3, a0_4, a0_5, (l0_7.length : Int)]) (inner := [.int .i64 a0_0, .int .i64 a0_1, .int .i64 a0_2, .int .i64 a0_3, .int .i64 a0_4, .int .i64 a0_5, .int .i64 (l0_7.length : Int)]) (ok := fun _ => True) (okp := fun _ => True) ?hr (reps_ints _ _ _ [a0_0, a0_1, a0_2, a0_3, a0_4, a0_5, (l0_7.length : Int)]) (fun _ h => h) trivial HB.out HB.out.size (by simp) ?_; (case hr => first | (go_simp; done) | (go_simp; rfl)); intro vx w9 ho hb hg hat; (try replace FN := Aside0.mk (Kd.R_grown FN.out hg (fun _ _ => by simp))); (try replace FT := Aside0.mk (Kd.R_grown FT.out hg (fun _ _ => by simp))); (try replace FZ := Aside0.mk (blk_grown FZ.out hg (by simp))); replace HL := Aside0.mk (blk_grown HL.out hg (by simp)); replace HB := Aside0.mk hb; obtain ⟨A29, c29, e9⟩ := Kd.R_slice ho; subst e9; have FN := Aside0.mk ho; clear ho hb hg hat)
       refine hK.out _ _ ?_ ?_
       ·intro _; exact HL.out
       clear hK K
       try simp only [Act.put, List.setIfInBounds_toArray, List.set_cons_zero, List.set_cons_succ]
       refine AnyT.taken (i := 22) (v := ?v69) rfl (by kernel_rfl) (by kernel_rfl) (by kernel_rfl) (by kernel_rfl) (fun _ _ _ h => h) (Or.inl ⟨by rfl, ?y69⟩) ?s69 ?_
       case y69 =>
        intro wSW hSW
        (obtain ⟨k0, k1, k2, k3, k4, k5, k6, k7⟩ := keep8 hSW; go_simp)
        all_goals with_reducible rfl
       case s69 => exact HL.out
       try simp only [Act.put, List.setIfInBounds_toArray, List.set_cons_zero, List.set_cons_succ]
       refine AnyT.ready (rs := [23]) (by kernel_rfl) (by simp) (AllT.step rfl (fun K hK => ?b7023) AllT.nil)
       case b7023 =>
        (refine step_alloc (ob := .cells #[.slice none 0 0, .slice none 0 0] 47) (by rfl) ?hr ?_; (case hr => first | (go_simp; done) | (go_simp; rfl)); intro w9 gz hq hge hb; have FG : Aside0 (w.heap.size ≤ gz) := ⟨Nat.le_trans HB.out.size hge⟩; (try replace FN := Aside0.mk (Kd.R_below FN.out hb)); (try replace FT := Aside0.mk (Kd.R_below FT.out hb)); (try replace FZ := Aside0.mk (blk_below FZ.out hb)); replace HL := Aside0.mk (blk_below HL.out hb); replace HB := Aside0.mk (below_step HB.out hb); have FZ := Aside0.mk hq; clear hq hge hb)
        refine hK.out _ _ ?_ ?_
        ·intro _; exact HL.out
        clear hK K
        try simp only [Act.put, List.setIfInBounds_toArray, List.set_cons_zero, List.set_cons_succ]
        refine AnyT.ready (rs := [24]) (by kernel_rfl) (by simp) (AllT.step rfl (fun K hK => ?b7224) AllT.nil)
        case b7224 =>
         (have hs0 := (blk_cell FZ.out 0).trans rfl; have hs1 := (blk_cell FZ.out 1).trans rfl; have hf0 := blk_frozen FZ.out 0; have hf1 := blk_frozen FZ.out 1; go_simp)
         refine hK.out _ _ ?_ ?_
         ·exact past (by kernel_rfl)
         clear hK K
         try simp only [Act.put, List.setIfInBounds_toArray, List.set_cons_zero, List.set_cons_succ]
         refine AnyT.done (by kernel_rfl) ?_ _
         refine NoPanic.normal ?_
         (go_wp2; go_meet)
         (case rel => exact ⟨gz, .slice A29 7 c29, .slice A35 (l0_7.length + 1) c35, rfl, ⟨PE.of (vN' := .slice none 0 0) (vT' := .slice none 0 0) HL.out HB.out FN.out FT.out FZ.out FG.out⟩⟩)
      case b6723 =>
       (refine step_alloc (ob := .cells #[.slice none 0 0, .slice none 0 0] 47) (by rfl) ?hr ?_; (case hr => first | (go_simp; done) | (go_simp; rfl)); intro w9 gz hq hge hb; have FG : Aside0 (w.heap.size ≤ gz) := ⟨Nat.le_trans HB.out.size hge⟩; (try replace FN := Aside0.mk (Kd.R_below FN.out hb)); (try replace FT := Aside0.mk (Kd.R_below FT.out hb)); (try replace FZ := Aside0.mk (blk_below FZ.out hb)); replace HL := Aside0.mk (blk_below HL.out hb); replace HB := Aside0.mk (below_step HB.out hb); have FZ := Aside0.mk hq; clear hq hge hb)
       refine hK.out _ _ ?_ ?_
       ·intro _; exact HL.out
       clear hK K
       try simp only [Act.put, List.setIfInBounds_toArray, List.set_cons_zero, List.set_cons_succ]
       refine AnyT.ready (rs := [15]) (by kernel_rfl) (by simp) (AllT.step rfl (fun K hK => ?b7615) AllT.nil)
       case b7615 =>
        (refine Kd.R_lit_step (Kd.int .i64) (w0 := w) w.heap.size 3 (by rfl) (N := 29) (by rfl) (xs := [a0_0, a0_1, a0_2, a0_3, a0_4, a0_5, (l0_7.length : Int)]) (inner := [.int .i64 a0_0, .int .i64 a0_1, .int .i64 a0_2, .int .i64 a0_3, .int .i64 a0_4, .int .i64 a0_5, .int .i64 (l0_7.length : Int)]) (ok := fun _ => True) (okp := fun _ => True) ?hr (reps_ints _ _ _ [a0_0, a0_1, a0_2, a0_3, a0_4, a0_5, (l0_7.length : Int)]) (fun _ h => h) trivial HB.out HB.out.size (by simp) ?_; (case hr => first | (go_simp; done) | (go_simp; rfl)); intro vx w9 ho hb hg hat; (try replace FN := Aside0.mk (Kd.R_grown FN.out hg (fun _ _ => by simp))); (try replace FT := Aside0.mk (Kd.R_grown FT.out hg (fun _ _ => by simp))); (try replace FZ := Aside0.mk (blk_grown FZ.out hg (by simp))); replace HL := Aside0.mk (blk_grown HL.out hg (by simp)); replace HB := Aside0.mk hb; obtain ⟨A29, c29, e9⟩ := Kd.R_slice ho; subst e9; have FN := Aside0.mk ho; clear ho hb hg hat)
        refine hK.out _ _ ?_ ?_
        ·intro _; exact HL.out
        clear hK K
        try simp only [Act.put, List.setIfInBounds_toArray, List.set_cons_zero, List.set_cons_succ]
        refine AnyT.taken (i := 22) (v := ?v78) rfl (by kernel_rfl) (by kernel_rfl) (by kernel_rfl) (by kernel_rfl) (fun _ _ _ h => h) (Or.inl ⟨by rfl, ?y78⟩) ?s78 ?_
        case y78 =>
         intro wSW hSW
         (obtain ⟨k0, k1, k2, k3, k4, k5, k6, k7⟩ := keep8 hSW; go_simp)
         all_goals with_reducible rfl
        case s78 => exact HL.out
        try simp only [Act.put, List.setIfInBounds_toArray, List.set_cons_zero, List.set_cons_succ]
        refine AnyT.ready (rs := [24]) (by kernel_rfl) (by simp) (AllT.step rfl (fun K hK => ?b7924) AllT.nil)
        case b7924 =>
         (have hs0 := (blk_cell FZ.out 0).trans rfl; have hs1 := (blk_cell FZ.out 1).trans rfl; have hf0 := blk_frozen FZ.out 0; have hf1 := blk_frozen FZ.out 1; go_simp)
         refine hK.out _ _ ?_ ?_
         ·exact past (by kernel_rfl)
         clear hK K
         try simp only [Act.put, List.setIfInBounds_toArray, List.set_cons_zero, List.set_cons_succ]
         refine AnyT.done (by kernel_rfl) ?_ _
         refine NoPanic.normal ?_
         (go_wp2; go_meet)
         (case rel => exact ⟨gz, .slice A29 7 c29, .slice A35 (l0_7.length + 1) c35, rfl, ⟨PE.of (vN' := .slice none 0 0) (vT' := .slice none 0 0) HL.out HB.out FN.out FT.out FZ.out FG.out⟩⟩)
     case b4923 =>
      (refine step_alloc (ob := .cells #[.slice none 0 0, .slice none 0 0] 47) (by rfl) ?hr ?_; (case hr => first | (go_simp; done) | (go_simp; rfl)); intro w9 gz hq hge hb; have FG : Aside0 (w.heap.size ≤ gz) := ⟨Nat.le_trans HB.out.size hge⟩; (try replace FN := Aside0.mk (Kd.R_below FN.out hb)); (try replace FT := Aside0.mk (Kd.R_below FT.out hb)); (try replace FZ := Aside0.mk (blk_below FZ.out hb)); replace HL := Aside0.mk (blk_below HL.out hb); replace HB := Aside0.mk (below_step HB.out hb); have FZ := Aside0.mk hq; clear hq hge hb)
      refine hK.out _ _ ?_ ?_
      ·intro _; exact HL.out
      clear hK K
      try simp only [Act.put, List.setIfInBounds_toArray, List.set_cons_zero, List.set_cons_succ]
      refine AnyT.ready (rs := [15, 21]) (by kernel_rfl) (by simp) (AllT.step rfl (fun K hK => ?b8315) (AllT.step rfl (fun K hK => ?b8321) AllT.nil))
      case b8315 =>
       (refine Kd.R_lit_step (Kd.int .i64) (w0 := w) w.heap.size 3 (by rfl) (N := 29) (by rfl) (xs := [a0_0, a0_1, a0_2, a0_3, a0_4, a0_5, (l0_7.length : Int)]) (inner := [.int .i64 a0_0, .int .i64 a0_1, .int .i64 a0_2, .int .i64 a0_3, .int .i64 a0_4, .int .i64 a0_5, .int .i64 (l0_7.length : Int)]) (ok := fun _ => True) (okp := fun _ => True) ?hr (reps_ints _ _ _ [a0_0, a0_1, a0_2, a0_3, a0_4, a0_5, (l0_7.length : Int)]) (fun _ h => h) trivial HB.out HB.out.size (by simp) ?_; (case hr => first | (go_simp; done) | (go_simp; rfl)); intro vx w9 ho hb hg hat; (try replace FN := Aside0.mk (Kd.R_grown FN.out hg (fun _ _ => by simp))); (try replace FT := Aside0.mk (Kd.R_grown FT.out hg (fun _ _ => by simp))); (try replace FZ := Aside0.mk (blk_grown FZ.out hg (by simp))); replace HL := Aside0.mk (blk_grown HL.out hg (by simp)); replace HB := Aside0.mk hb; obtain ⟨A29, c29, e9⟩ := Kd.R_slice ho; subst e9; have FN := Aside0.mk ho; clear ho hb hg hat)
       refine hK.out _ _ ?_ ?_
       ·intro _; exact HL.out
       clear hK K
       try simp only [Act.put, List.setIfInBounds_toArray, List.set_cons_zero, List.set_cons_succ]
       refine AnyT.ready (rs := [21]) (by kernel_rfl) (by simp) (AllT.step rfl (fun K hK => ?b8521) AllT.nil)
       case b8521 =>
        (refine Kd.R_append_rows_step Kd.string (w0 := w) w.heap.size (by rfl) (.tmp 32) (.tmp 34) 22 9 (.string ⟨#[]⟩) 16 (by rfl) Try.underlying22 info9 rfl (by decide) (by omega) (.slice A32 1 c32) [a0_6] l0_7 _ _ _ (fun _ => True) (fun _ => False) (by rfl) (by rfl) FT.out (Kd.C_below HR7.out HB.out) (fun _ _ h => h) (fun _ h => h.elim) (fun _ _ => trivial) HB.out HB.out.size (by simp only [List.length_cons, List.length_nil]; omega) ?_; intro vx w9 ho hb hg hat; (try replace FN := Aside0.mk (Kd.R_over FN.out FT.out (by decide) hg)); (try replace FZ := Aside0.mk (blk_grown FZ.out hg (Kd.R_ne FT.out FZ.out (by decide)))); replace HL := Aside0.mk (blk_grown HL.out hg (Kd.R_ne FT.out HL.out (by decide))); replace HB := Aside0.mk hb; obtain ⟨A35, c35, e9⟩ := Kd.R_slice ho; subst e9; replace FT := Aside0.mk ho; clear ho hb hg hat)
        refine hK.out _ _ ?_ ?_
        ·intro _; exact HL.out
        clear hK K
        try simp only [Act.put, List.setIfInBounds_toArray, List.set_cons_zero, List.set_cons_succ]
        refine AnyT.taken (i := 22) (v := ?v87) rfl (by kernel_rfl) (by kernel_rfl) (by kernel_rfl) (by kernel_rfl) (fun _ _ _ h => h) (Or.inl ⟨by rfl, ?y87⟩) ?s87 ?_
        case y87 =>
         intro wSW hSW
         (obtain ⟨k0, k1, k2, k3, k4, k5, k6, k7⟩ := keep8 hSW; go_simp)
         all_goals with_reducible rfl
        case s87 => exact HL.out
        try simp only [Act.put, List.setIfInBounds_toArray, List.set_cons_zero, List.set_cons_succ]
        refine AnyT.ready (rs := [24]) (by kernel_rfl) (by simp) (AllT.step rfl (fun K hK => ?b8824) AllT.nil)
        case b8824 =>
         (have hs0 := (blk_cell FZ.out 0).trans rfl; have hs1 := (blk_cell FZ.out 1).trans rfl; have hf0 := blk_frozen FZ.out 0; have hf1 := blk_frozen FZ.out 1; go_simp)
         refine hK.out _ _ ?_ ?_
         ·exact past (by kernel_rfl)
         clear hK K
         try simp only [Act.put, List.setIfInBounds_toArray, List.set_cons_zero, List.set_cons_succ]
         refine AnyT.done (by kernel_rfl) ?_ _
         refine NoPanic.normal ?_
         (go_wp2; go_meet)
         (case rel => exact ⟨gz, .slice A29 7 c29, .slice A35 (l0_7.length + 1) c35, rfl, ⟨PE.of (vN' := .slice none 0 0) (vT' := .slice none 0 0) HL.out HB.out FN.out FT.out FZ.out FG.out⟩⟩)
      case b8321 =>
       (refine Kd.R_append_rows_step Kd.string (w0 := w) w.heap.size (by rfl) (.tmp 32) (.tmp 34) 22 9 (.string ⟨#[]⟩) 16 (by rfl) Try.underlying22 info9 rfl (by decide) (by omega) (.slice A32 1 c32) [a0_6] l0_7 _ _ _ (fun _ => True) (fun _ => False) (by rfl) (by rfl) FT.out (Kd.C_below HR7.out HB.out) (fun _ _ h => h) (fun _ h => h.elim) (fun _ _ => trivial) HB.out HB.out.size (by simp only [List.length_cons, List.length_nil]; omega) ?_; intro vx w9 ho hb hg hat; (try replace FN := Aside0.mk (Kd.R_over FN.out FT.out (by decide) hg)); (try replace FZ := Aside0.mk (blk_grown FZ.out hg (Kd.R_ne FT.out FZ.out (by decide)))); replace HL := Aside0.mk (blk_grown HL.out hg (Kd.R_ne FT.out HL.out (by decide))); replace HB := Aside0.mk hb; obtain ⟨A35, c35, e9⟩ := Kd.R_slice ho; subst e9; replace FT := Aside0.mk ho; clear ho hb hg hat)
       refine hK.out _ _ ?_ ?_
       ·intro _; exact HL.out
       clear hK K
       try simp only [Act.put, List.setIfInBounds_toArray, List.set_cons_zero, List.set_cons_succ]
       refine AnyT.ready (rs := [15]) (by kernel_rfl) (by simp) (AllT.step rfl (fun K hK => ?b9215) AllT.nil)
       case b9215 =>
        (refine Kd.R_lit_step (Kd.int .i64) (w0 := w) w.heap.size 3 (by rfl) (N := 29) (by rfl) (xs := [a0_0, a0_1, a0_2, a0_3, a0_4, a0_5, (l0_7.length : Int)]) (inner := [.int .i64 a0_0, .int .i64 a0_1, .int .i64 a0_2, .int .i64 a0_3, .int .i64 a0_4, .int .i64 a0_5, .int .i64 (l0_7.length : Int)]) (ok := fun _ => True) (okp := fun _ => True) ?hr (reps_ints _ _ _ [a0_0, a0_1, a0_2, a0_3, a0_4, a0_5, (l0_7.length : Int)]) (fun _ h => h) trivial HB.out HB.out.size (by simp) ?_; (case hr => first | (go_simp; done) | (go_simp; rfl)); intro vx w9 ho hb hg hat; (try replace FN := Aside0.mk (Kd.R_grown FN.out hg (fun _ _ => by simp))); (try replace FT := Aside0.mk (Kd.R_grown FT.out hg (fun _ _ => by simp))); (try replace FZ := Aside0.mk (blk_grown FZ.out hg (by simp))); replace HL := Aside0.mk (blk_grown HL.out hg (by simp)); replace HB := Aside0.mk hb; obtain ⟨A29, c29, e9⟩ := Kd.R_slice ho; subst e9; have FN := Aside0.mk ho; clear ho hb hg hat)
        refine hK.out _ _ ?_ ?_
        ·intro _; exact HL.out
        clear hK K
        try simp only [Act.put, List.setIfInBounds_toArray, List.set_cons_zero, List.set_cons_succ]
        refine AnyT.taken (i := 22) (v := ?v94) rfl (by kernel_rfl) (by kernel_rfl) (by kernel_rfl) (by kernel_rfl) (fun _ _ _ h => h) (Or.inl ⟨by rfl, ?y94⟩) ?s94 ?_
        case y94 =>
         intro wSW hSW
         (obtain ⟨k0, k1, k2, k3, k4, k5, k6, k7⟩ := keep8 hSW; go_simp)
         all_goals with_reducible rfl
        case s94 => exact HL.out
        try simp only [Act.put, List.setIfInBounds_toArray, List.set_cons_zero, List.set_cons_succ]
        refine AnyT.ready (rs := [24]) (by kernel_rfl) (by simp) (AllT.step rfl (fun K hK => ?b9524) AllT.nil)
        case b9524 =>
         (have hs0 := (blk_cell FZ.out 0).trans rfl; have hs1 := (blk_cell FZ.out 1).trans rfl; have hf0 := blk_frozen FZ.out 0; have hf1 := blk_frozen FZ.out 1; go_simp)
         refine hK.out _ _ ?_ ?_
         ·exact past (by kernel_rfl)
         clear hK K
         try simp only [Act.put, List.setIfInBounds_toArray, List.set_cons_zero, List.set_cons_succ]
         refine AnyT.done (by kernel_rfl) ?_ _
         refine NoPanic.normal ?_
         (go_wp2; go_meet)
         (case rel => exact ⟨gz, .slice A29 7 c29, .slice A35 (l0_7.length + 1) c35, rfl, ⟨PE.of (vN' := .slice none 0 0) (vT' := .slice none 0 0) HL.out HB.out FN.out FT.out FZ.out FG.out⟩⟩)
    case b2023 =>
     (refine step_alloc (ob := .cells #[.slice none 0 0, .slice none 0 0] 47) (by rfl) ?hr ?_; (case hr => first | (go_simp; done) | (go_simp; rfl)); intro w9 gz hq hge hb; have FG : Aside0 (w.heap.size ≤ gz) := ⟨Nat.le_trans HB.out.size hge⟩; (try replace FN := Aside0.mk (Kd.R_below FN.out hb)); (try replace FT := Aside0.mk (Kd.R_below FT.out hb)); (try replace FZ := Aside0.mk (blk_below FZ.out hb)); replace HL := Aside0.mk (blk_below HL.out hb); replace HB := Aside0.mk (below_step HB.out hb); have FZ := Aside0.mk hq; clear hq hge hb)
     refine hK.out _ _ ?_ ?_
     ·intro _; exact HL.out
     clear hK K
     try simp only [Act.put, List.setIfInBounds_toArray, List.set_cons_zero, List.set_cons_succ]
     refine AnyT.ready (rs := [15, 18]) (by kernel_rfl) (by simp) (AllT.step rfl (fun K hK => ?b9915) (AllT.step rfl (fun K hK => ?b9918) AllT.nil))
     case b9915 =>
      (refine Kd.R_lit_step (Kd.int .i64) (w0 := w) w.heap.size 3 (by rfl) (N := 29) (by rfl) (xs := [a0_0, a0_1, a0_2, a0_3, a0_4, a0_5, (l0_7.length : Int)]) (inner := [.int .i64 a0_0, .int .i64 a0_1, .int .i64 a0_2, .int .i64 a0_3, .int .i64 a0_4, .int .i64 a0_5, .int .i64 (l0_7.length : Int)]) (ok := fun _ => True) (okp := fun _ => True) ?hr (reps_ints _ _ _ [a0_0, a0_1, a0_2, a0_3, a0_4, a0_5, (l0_7.length : Int)]) (fun _ h => h) trivial HB.out HB.out.size (by simp) ?_; (case hr => first | (go_simp; done) | (go_simp; rfl)); intro vx w9 ho hb hg hat; (try replace FN := Aside0.mk (Kd.R_grown FN.out hg (fun _ _ => by simp))); (try replace FT := Aside0.mk (Kd.R_grown FT.out hg (fun _ _ => by simp))); (try replace FZ := Aside0.mk (blk_grown FZ.out hg (by simp))); replace HL := Aside0.mk (blk_grown HL.out hg (by simp)); replace HB := Aside0.mk hb; obtain ⟨A29, c29, e9⟩ := Kd.R_slice ho; subst e9; have FN := Aside0.mk ho; clear ho hb hg hat)
      refine hK.out _ _ ?_ ?_
      ·intro _; exact HL.out
      clear hK K
      try simp only [Act.put, List.setIfInBounds_toArray, List.set_cons_zero, List.set_cons_succ]
      refine AnyT.ready (rs := [18]) (by kernel_rfl) (by simp) (AllT.step rfl (fun K hK => ?b10118) AllT.nil)
      case b10118 =>
       (refine Kd.R_lit_step Kd.string (w0 := w) w.heap.size 9 (by rfl) (N := 32) (by rfl) (xs := [a0_6]) (inner := [.string a0_6]) (ok := fun _ => True) (okp := fun _ => True) ?hr (reps_texts _ _ _ [a0_6]) (fun _ h => h) trivial HB.out HB.out.size (by simp) ?_; (case hr => first | (go_simp; done) | (go_simp; rfl)); intro vx w9 ho hb hg hat; (try replace FN := Aside0.mk (Kd.R_grown FN.out hg (fun _ _ => by simp))); (try replace FT := Aside0.mk (Kd.R_grown FT.out hg (fun _ _ => by simp))); (try replace FZ := Aside0.mk (blk_grown FZ.out hg (by simp))); replace HL := Aside0.mk (blk_grown HL.out hg (by simp)); replace HB := Aside0.mk hb; obtain ⟨A32, c32, e9⟩ := Kd.R_slice ho; subst e9; have FT := Aside0.mk ho; clear ho hb hg hat)
       refine hK.out _ _ ?_ ?_
       ·intro _; exact HL.out
       clear hK K
       try simp only [Act.put, List.setIfInBounds_toArray, List.set_cons_zero, List.set_cons_succ]
       refine AnyT.ready (rs := [21]) (by kernel_rfl) (by simp) (AllT.step rfl (fun K hK => ?b10321) AllT.nil)
       case b10321 =>
        (refine Kd.R_append_rows_step Kd.string (w0 := w) w.heap.size (by rfl) (.tmp 32) (.tmp 34) 22 9 (.string ⟨#[]⟩) 16 (by rfl) Try.underlying22 info9 rfl (by decide) (by omega) (.slice A32 1 c32) [a0_6] l0_7 _ _ _ (fun _ => True) (fun _ => False) (by rfl) (by rfl) FT.out (Kd.C_below HR7.out HB.out) (fun _ _ h => h) (fun _ h => h.elim) (fun _ _ => trivial) HB.out HB.out.size (by simp only [List.length_cons, List.length_nil]; omega) ?_; intro vx w9 ho hb hg hat; (try replace FN := Aside0.mk (Kd.R_over FN.out FT.out (by decide) hg)); (try replace FZ := Aside0.mk (blk_grown FZ.out hg (Kd.R_ne FT.out FZ.out (by decide)))); replace HL := Aside0.mk (blk_grown HL.out hg (Kd.R_ne FT.out HL.out (by decide))); replace HB := Aside0.mk hb; obtain ⟨A35, c35, e9⟩ := Kd.R_slice ho; subst e9; replace FT := Aside0.mk ho; clear ho hb hg hat)
        refine hK.out _ _ ?_ ?_
        ·intro _; exact HL.out
        clear hK K
        try simp only [Act.put, List.setIfInBounds_toArray, List.set_cons_zero, List.set_cons_succ]
        refine AnyT.taken (i := 22) (v := ?v105) rfl (by kernel_rfl) (by kernel_rfl) (by kernel_rfl) (by kernel_rfl) (fun _ _ _ h => h) (Or.inl ⟨by rfl, ?y105⟩) ?s105 ?_
        case y105 =>
         intro wSW hSW
         (obtain ⟨k0, k1, k2, k3, k4, k5, k6, k7⟩ := keep8 hSW; go_simp)
         all_goals with_reducible rfl
        case s105 => exact HL.out
        try simp only [Act.put, List.setIfInBounds_toArray, List.set_cons_zero, List.set_cons_succ]
        refine AnyT.ready (rs := [24]) (by kernel_rfl) (by simp) (AllT.step rfl (fun K hK => ?b10624) AllT.nil)
        case b10624 =>
         (have hs0 := (blk_cell FZ.out 0).trans rfl; have hs1 := (blk_cell FZ.out 1).trans rfl; have hf0 := blk_frozen FZ.out 0; have hf1 := blk_frozen FZ.out 1; go_simp)
         refine hK.out _ _ ?_ ?_
         ·exact past (by kernel_rfl)
         clear hK K
         try simp only [Act.put, List.setIfInBounds_toArray, List.set_cons_zero, List.set_cons_succ]
         refine AnyT.done (by kernel_rfl) ?_ _
         refine NoPanic.normal ?_
         (go_wp2; go_meet)
         (case rel => exact ⟨gz, .slice A29 7 c29, .slice A35 (l0_7.length + 1) c35, rfl, ⟨PE.of (vN' := .slice none 0 0) (vT' := .slice none 0 0) HL.out HB.out FN.out FT.out FZ.out FG.out⟩⟩)
     case b9918 =>
      (refine Kd.R_lit_step Kd.string (w0 := w) w.heap.size 9 (by rfl) (N := 32) (by rfl) (xs := [a0_6]) (inner := [.string a0_6]) (ok := fun _ => True) (okp := fun _ => True) ?hr (reps_texts _ _ _ [a0_6]) (fun _ h => h) trivial HB.out HB.out.size (by simp) ?_; (case hr => first | (go_simp; done) | (go_simp; rfl)); intro vx w9 ho hb hg hat; (try replace FN := Aside0.mk (Kd.R_grown FN.out hg (fun _ _ => by simp))); (try replace FT := Aside0.mk (Kd.R_grown FT.out hg (fun _ _ => by simp))); (try replace FZ := Aside0.mk (blk_grown FZ.out hg (by simp))); replace HL := Aside0.mk (blk_grown HL.out hg (by simp)); replace HB := Aside0.mk hb; obtain ⟨A32, c32, e9⟩ := Kd.R_slice ho; subst e9; have FT := Aside0.mk ho; clear ho hb hg hat)
      refine hK.out _ _ ?_ ?_
      ·intro _; exact HL.out
      clear hK K
      try simp only [Act.put, List.setIfInBounds_toArray, List.set_cons_zero, List.set_cons_succ]
      refine AnyT.ready (rs := [15, 21]) (by kernel_rfl) (by simp) (AllT.step rfl (fun K hK => ?b11015) (AllT.step rfl (fun K hK => ?b11021) AllT.nil))
      case b11015 =>
       (refine Kd.R_lit_step (Kd.int .i64) (w0 := w) w.heap.size 3 (by rfl) (N := 29) (by rfl) (xs := [a0_0, a0_1, a0_2, a0_3, a0_4, a0_5, (l0_7.length : Int)]) (inner := [.int .i64 a0_0, .int .i64 a0_1, .int .i64 a0_2, .int .i64 a0_3, .int .i64 a0_4, .int .i64 a0_5, .int .i64 (l0_7.length : Int)]) (ok := fun _ => True) (okp := fun _ => True) ?hr (reps_ints _ _ _ [a0_0, a0_1, a0_2, a0_3, a0_4, a0_5, (l0_7.length : Int)]) (fun _ h => h) trivial HB.out HB.out.size (by simp) ?_; (case hr => first | (go_simp; done) | (go_simp; rfl)); intro vx w9 ho hb hg hat; (try replace FN := Aside0.mk (Kd.R_grown FN.out hg (fun _ _ => by simp))); (try replace FT := Aside0.mk (Kd.R_grown FT.out hg (fun _ _ => by simp))); (try replace FZ := Aside0.mk (blk_grown FZ.out hg (by simp))); replace HL := Aside0.mk (blk_grown HL.out hg (by simp)); replace HB := Aside0.mk hb; obtain ⟨A29, c29, e9⟩ := Kd.R_slice ho; subst e9; have FN := Aside0.mk ho; clear ho hb hg hat)
       refine hK.out _ _ ?_ ?_
       ·intro _; exact HL.out
       clear hK K
       try simp only [Act.put, List.setIfInBounds_toArray, List.set_cons_zero, List.set_cons_succ]
       refine AnyT.ready (rs := [21]) (by kernel_rfl) (by simp) (AllT.step rfl (fun K hK => ?b11221) AllT.nil)
       case b11221 =>
        (refine Kd.R_append_rows_step Kd.string (w0 := w) w.heap.size (by rfl) (.tmp 32) (.tmp 34) 22 9 (.string ⟨#[]⟩) 16 (by rfl) Try.underlying22 info9 rfl (by decide) (by omega) (.slice A32 1 c32) [a0_6] l0_7 _ _ _ (fun _ => True) (fun _ => False) (by rfl) (by rfl) FT.out (Kd.C_below HR7.out HB.out) (fun _ _ h => h) (fun _ h => h.elim) (fun _ _ => trivial) HB.out HB.out.size (by simp only [List.length_cons, List.length_nil]; omega) ?_; intro vx w9 ho hb hg hat; (try replace FN := Aside0.mk (Kd.R_over FN.out FT.out (by decide) hg)); (try replace FZ := Aside0.mk (blk_grown FZ.out hg (Kd.R_ne FT.out FZ.out (by decide)))); replace HL := Aside0.mk (blk_grown HL.out hg (Kd.R_ne FT.out HL.out (by decide))); replace HB := Aside0.mk hb; obtain ⟨A35, c35, e9⟩ := Kd.R_slice ho; subst e9; replace FT := Aside0.mk ho; clear ho hb hg hat)
        refine hK.out _ _ ?_ ?_
        ·intro _; exact HL.out
        clear hK K
        try simp only [Act.put, List.setIfInBounds_toArray, List.set_cons_zero, List.set_cons_succ]
        refine AnyT.taken (i := 22) (v := ?v114) rfl (by kernel_rfl) (by kernel_rfl) (by kernel_rfl) (by kernel_rfl) (fun _ _ _ h => h) (Or.inl ⟨by rfl, ?y114⟩) ?s114 ?_
        case y114 =>
         intro wSW hSW
         (obtain ⟨k0, k1, k2, k3, k4, k5, k6, k7⟩ := keep8 hSW; go_simp)
         all_goals with_reducible rfl
        case s114 => exact HL.out
        try simp only [Act.put, List.setIfInBounds_toArray, List.set_cons_zero, List.set_cons_succ]
        refine AnyT.ready (rs := [24]) (by kernel_rfl) (by simp) (AllT.step rfl (fun K hK => ?b11524) AllT.nil)
        case b11524 =>
         (have hs0 := (blk_cell FZ.out 0).trans rfl; have hs1 := (blk_cell FZ.out 1).trans rfl; have hf0 := blk_frozen FZ.out 0; have hf1 := blk_frozen FZ.out 1; go_simp)
         refine hK.out _ _ ?_ ?_
         ·exact past (by kernel_rfl)
         clear hK K
         try simp only [Act.put, List.setIfInBounds_toArray, List.set_cons_zero, List.set_cons_succ]
         refine AnyT.done (by kernel_rfl) ?_ _
         refine NoPanic.normal ?_
         (go_wp2; go_meet)
         (case rel => exact ⟨gz, .slice A29 7 c29, .slice A35 (l0_7.length + 1) c35, rfl, ⟨PE.of (vN' := .slice none 0 0) (vT' := .slice none 0 0) HL.out HB.out FN.out FT.out FZ.out FG.out⟩⟩)
      case b11021 =>
       (refine Kd.R_append_rows_step Kd.string (w0 := w) w.heap.size (by rfl) (.tmp 32) (.tmp 34) 22 9 (.string ⟨#[]⟩) 16 (by rfl) Try.underlying22 info9 rfl (by decide) (by omega) (.slice A32 1 c32) [a0_6] l0_7 _ _ _ (fun _ => True) (fun _ => False) (by rfl) (by rfl) FT.out (Kd.C_below HR7.out HB.out) (fun _ _ h => h) (fun _ h => h.elim) (fun _ _ => trivial) HB.out HB.out.size (by simp only [List.length_cons, List.length_nil]; omega) ?_; intro vx w9 ho hb hg hat; (try replace FN := Aside0.mk (Kd.R_over FN.out FT.out (by decide) hg)); (try replace FZ := Aside0.mk (blk_grown FZ.out hg (Kd.R_ne FT.out FZ.out (by decide)))); replace HL := Aside0.mk (blk_grown HL.out hg (Kd.R_ne FT.out HL.out (by decide))); replace HB := Aside0.mk hb; obtain ⟨A35, c35, e9⟩ := Kd.R_slice ho; subst e9; replace FT := Aside0.mk ho; clear ho hb hg hat)
       refine hK.out _ _ ?_ ?_
       ·intro _; exact HL.out
       clear hK K
       try simp only [Act.put, List.setIfInBounds_toArray, List.set_cons_zero, List.set_cons_succ]
       refine AnyT.ready (rs := [15]) (by kernel_rfl) (by simp) (AllT.step rfl (fun K hK => ?b11915) AllT.nil)
       case b11915 =>
        (refine Kd.R_lit_step (Kd.int .i64) (w0 := w) w.heap.size 3 (by rfl) (N := 29) (by rfl) (xs := [a0_0, a0_1, a0_2, a0_3, a0_4, a0_5, (l0_7.length : Int)]) (inner := [.int .i64 a0_0, .int .i64 a0_1, .int .i64 a0_2, .int .i64 a0_3, .int .i64 a0_4, .int .i64 a0_5, .int .i64 (l0_7.length : Int)]) (ok := fun _ => True) (okp := fun _ => True) ?hr (reps_ints _ _ _ [a0_0, a0_1, a0_2, a0_3, a0_4, a0_5, (l0_7.length : Int)]) (fun _ h => h) trivial HB.out HB.out.size (by simp) ?_; (case hr => first | (go_simp; done) | (go_simp; rfl)); intro vx w9 ho hb hg hat; (try replace FN := Aside0.mk (Kd.R_grown FN.out hg (fun _ _ => by simp))); (try replace FT := Aside0.mk (Kd.R_grown FT.out hg (fun _ _ => by simp))); (try replace FZ := Aside0.mk (blk_grown FZ.out hg (by simp))); replace HL := Aside0.mk (blk_grown HL.out hg (by simp)); replace HB := Aside0.mk hb; obtain ⟨A29, c29, e9⟩ := Kd.R_slice ho; subst e9; have FN := Aside0.mk ho; clear ho hb hg hat)
        refine hK.out _ _ ?_ ?_
        ·intro _; exact HL.out
        clear hK K
        try simp only [Act.put, List.setIfInBounds_toArray, List.set_cons_zero, List.set_cons_succ]
        refine AnyT.taken (i := 22) (v := ?v121) rfl (by kernel_rfl) (by kernel_rfl) (by kernel_rfl) (by kernel_rfl) (fun _ _ _ h => h) (Or.inl ⟨by rfl, ?y121⟩) ?s121 ?_
        case y121 =>
         intro wSW hSW
         (obtain ⟨k0, k1, k2, k3, k4, k5, k6, k7⟩ := keep8 hSW; go_simp)
         all_goals with_reducible rfl
        case s121 => exact HL.out
        try simp only [Act.put, List.setIfInBounds_toArray, List.set_cons_zero, List.set_cons_succ]
        refine AnyT.ready (rs := [24]) (by kernel_rfl) (by simp) (AllT.step rfl (fun K hK => ?b12224) AllT.nil)
        case b12224 =>
         (have hs0 := (blk_cell FZ.out 0).trans rfl; have hs1 := (blk_cell FZ.out 1).trans rfl; have hf0 := blk_frozen FZ.out 0; have hf1 := blk_frozen FZ.out 1; go_simp)
         refine hK.out _ _ ?_ ?_
         ·exact past (by kernel_rfl)
         clear hK K
         try simp only [Act.put, List.setIfInBounds_toArray, List.set_cons_zero, List.set_cons_succ]
         refine AnyT.done (by kernel_rfl) ?_ _
         refine NoPanic.normal ?_
         (go_wp2; go_meet)
         (case rel => exact ⟨gz, .slice A29 7 c29, .slice A35 (l0_7.length + 1) c35, rfl, ⟨PE.of (vN' := .slice none 0 0) (vT' := .slice none 0 0) HL.out HB.out FN.out FT.out FZ.out FG.out⟩⟩)
   case rest =>
    obtain ⟨gp, vN0, vT0, rfl, HP0⟩ := hcut
    clear HL HB HB2 BL2
    have hcz_8 : wc.cell? ⟨gl, 8, none⟩ = some (.slice A0_8 l0_8.length c0_8) := (blk_cell HP0.out.bl 8).trans rfl
    go_wp2
    go_loopw [40] (fun v40 wr => ∃ (i : Nat) (x : Int) (xs : List Int) (ts : List ByteArray) (vN vT : Value), v40 = .int .i64 x ∧ Aside0 (x = (i : Int)) ∧ Aside0 (i ≤ l0_8.length) ∧ Aside0 (xs = [a0_0, a0_1, a0_2, a0_3, a0_4, a0_5, (l0_7.length : Int)] ++ flagsOf (l0_8.take i)) ∧ Aside0 (ts = ([a0_6] ++ l0_7) ++ pairsOf (l0_8.take i)) ∧ Aside0 (PE w wr gl #[.int .i64 a0_0, .int .i64 a0_1, .int .i64 a0_2, .int .i64 a0_3, .int .i64 a0_4, .int .i64 a0_5, .string a0_6, .slice A0_7 l0_7.length c0_7, .slice A0_8 l0_8.length c0_8] gp xs ts vN vT)) (fun v40 _ => l0_8.length - (intOf v40).toNat)
    case atStart => exact ⟨0, 0, [a0_0, a0_1, a0_2, a0_3, a0_4, a0_5, (l0_7.length : Int)], [a0_6] ++ l0_7, _, _, rfl, ⟨rfl⟩, ⟨Nat.zero_le _⟩, ⟨by simp [flagsOf]⟩, ⟨by simp [pairsOf]⟩, HP0⟩
    case round =>
     clear hcz_8
     obtain ⟨i, x, xs, ts, vN, vT, rfl, hx, hi, hxs, hts, HP⟩ := hrel
     clear HP0
     have hxi := hx.out
     have hile := hi.out
     by_cases hlt : i < l0_8.length
     ·have c1 : decide (x < (l0_8.length : Int)) = true := decide_eq_true (by omega)
      have p118 : 0 ≤ x := by omega
      have q118 : x < (l0_8.length : Int) := by omega
      have hrd : rd_T49 l0_8 x = l0_8[i] := by rw [hxi]; exact rdT_get hlt
      obtain ⟨ad, e118, hx0, hx1, hx2⟩ := at_T49 HR8.out x p118 q118
      cases e118
      rw [hrd] at hx0 hx1 hx2
      replace hx0 := (HP.out.bel.cell (World.block_lt_of_cell? w _ hx0)).trans hx0
      replace hx1 := (HP.out.bel.cell (World.block_lt_of_cell? w _ hx1)).trans hx1
      replace hx2 := (HP.out.bel.cell (World.block_lt_of_cell? w _ hx2)).trans hx2
      have HXS := Aside0.mk (show [a0_0, a0_1, a0_2, a0_3, a0_4, a0_5, (l0_7.length : Int)] ++ flagsOf (l0_8.take (i + 1)) = xs ++ [if l0_8[i].f2 = true then 1 else 0] from by rw [hxs.out, flags_step hlt, ← List.append_assoc])
      have HTS := Aside0.mk (show ([a0_6] ++ l0_7) ++ pairsOf (l0_8.take (i + 1)) = ts ++ [l0_8[i].f0, l0_8[i].f1] from by rw [hts.out, pairs_step hlt, ← List.append_assoc])
      have HXL : Aside0 (xs.length ≤ 1000010) := ⟨by rw [hxs.out]; simp [flagsOf]; omega⟩
      have HTL : Aside0 (ts.length ≤ 3000010) := ⟨by rw [hts.out]; simp [pairs_len]; omega⟩
      have HI := Aside0.mk (show x + 1 = ((i + 1 : Nat) : Int) from by omega)
      have HW : Aside0 (wrap64 (x + 1) = x + 1) := ⟨wrap_id (by omega) (by omega)⟩
      have HLT := Aside0.mk hlt
      obtain ⟨t0, ht0⟩ : ∃ t, t = l0_8[i].f0 := ⟨_, rfl⟩
      obtain ⟨t1, ht1⟩ : ∃ t, t = l0_8[i].f1 := ⟨_, rfl⟩
      obtain ⟨bq, hbq⟩ : ∃ b, b = l0_8[i].f2 := ⟨_, rfl⟩
      rw [← ht0] at hx0 HTS
      rw [← ht1] at hx1 HTS
      rw [← hbq] at hx2 HXS
      replace p118 := eq_true p118
      replace q118 := eq_true q118
      clear ht0 ht1 hbq hrd hxi hile hlt
      obtain ⟨AN, cN, eN⟩ := Kd.R_slice HP.out.ns
      subst eN
      obtain ⟨AT, cT, eT⟩ := Kd.R_slice HP.out.ts
      subst eT
      cases bq with
      |true =>
       have HP1 := Aside0.mk (HP.out.drew)
       go_wp2_with (first | ((with_reducible refine gate_dst (N := 7) rfl ?_); refine box_event ?hg (N := 7) ?hd (cs := #[.string (⟨#[]⟩ : ByteArray), .string (⟨#[]⟩ : ByteArray), .bool false]) (t := 49) ?hr ?_; (case hd => rfl); (case hg => rfl); (case hr => first | (go_simp; done) | (go_simp; rfl)); intro g7 hg w7 hbox hb; have HP7 := Aside0.mk (HP.out.below hb); have B7 := Aside0.mk hbox; have G7 : Aside0 (w.heap.size ≤ g7) := ⟨by rw [hg]; exact HP.out.bel.size⟩; replace hx0 := (hb.cell (World.block_lt_of_cell? _ _ hx0)).trans hx0; replace hx1 := (hb.cell (World.block_lt_of_cell? _ _ hx1)).trans hx1; replace hx2 := (hb.cell (World.block_lt_of_cell? _ _ hx2)).trans hx2; clear hg hb hbox HP; have hz0 : w7.cell? ⟨g7, 0, none⟩ = some (.string ⟨#[]⟩) := (blk_cell B7.out 0).trans rfl; have hz1 : w7.cell? ⟨g7, 1, none⟩ = some (.string ⟨#[]⟩) := (blk_cell B7.out 1).trans rfl; have hz2 : w7.cell? ⟨g7, 2, none⟩ = some (.bool false) := (blk_cell B7.out 2).trans rfl; have hzf0 := blk_frozen B7.out 0; have hzf1 := blk_frozen B7.out 1; have hzf2 := blk_frozen B7.out 2))
       have H7 := Aside0.mk (show (((w7.setCell ⟨g7, 0, none⟩ (.string t0)).setCell ⟨g7, 1, none⟩ (.string t1)).setCell ⟨g7, 2, none⟩ (.bool true)).drew.heap[g7]? = some (.cells #[.string t0, .string t1, .bool true] 49 (0, 0)) from blk_drew (blk_set (blk_set (blk_set B7.out 0 (.string t0)) 1 (.string t1)) 2 (.bool true)))
       have HPs := Aside0.mk ((((HP7.out.set B7.out G7.out 0 (.string t0)).set (blk_set B7.out 0 _) G7.out 1 (.string t1)).set (blk_set (blk_set B7.out 0 _) 1 _) G7.out 2 (.bool true)).drew)
       have HL := Aside0.mk HPs.out.bl
       have HPB := Aside0.mk HPs.out.bp
       have FN := Aside0.mk HPs.out.ns
       have FT := Aside0.mk HPs.out.ts
       have HB := Aside0.mk HPs.out.bel
       have HG := Aside0.mk HPs.out.gep
       clear HPs HP7 B7 G7 hz0 hz1 hz2 hzf0 hzf1 hzf2 hx0 hx1 hx2
       refine wp_region_noPanic ?_
       refine rt_begin (S := (fun W => W.heap[gp]? = some (.cells #[.slice AN xs.length cN, .slice AT ts.length cT] 47 (0, 0)) ∧ W.heap[g7]? = some (.cells #[.string t0, .string t1, .bool true] 49 (0, 0)))) (s := 14) (by kernel_rfl) ?_
       refine AnyT.taken (i := 0) (v := ?v125) rfl (by kernel_rfl) (by kernel_rfl) (by kernel_rfl) (by kernel_rfl) (fun _ _ _ h => h) (Or.inl ⟨by rfl, ?y125⟩) ?s125 ?_
       case y125 =>
        intro wSW hSW
        (have y0 : wSW.cell? ⟨gp, 0, none⟩ = some (.slice AN xs.length cN) := (blk_cell hSW.1 0).trans rfl; have y1 : wSW.cell? ⟨gp, 1, none⟩ = some (.slice AT ts.length cT) := (blk_cell hSW.1 1).trans rfl; have y2 : wSW.cell? ⟨g7, 0, none⟩ = some (.string t0) := (blk_cell hSW.2 0).trans rfl; have y3 : wSW.cell? ⟨g7, 1, none⟩ = some (.string t1) := (blk_cell hSW.2 1).trans rfl; go_simp)
        all_goals with_reducible rfl
       case s125 => exact ⟨HPB.out, H7.out⟩
       try simp only [Act.put, List.setIfInBounds_toArray, List.set_cons_zero, List.set_cons_succ]
       refine AnyT.taken (i := 1) (v := ?v126) rfl (by kernel_rfl) (by kernel_rfl) (by kernel_rfl) (by kernel_rfl) (fun _ _ _ h => h) (Or.inl ⟨by rfl, ?y126⟩) ?s126 ?_
       case y126 =>
        intro wSW hSW
        (have y0 : wSW.cell? ⟨gp, 0, none⟩ = some (.slice AN xs.length cN) := (blk_cell hSW.1 0).trans rfl; have y1 : wSW.cell? ⟨gp, 1, none⟩ = some (.slice AT ts.length cT) := (blk_cell hSW.1 1).trans rfl; have y2 : wSW.cell? ⟨g7, 0, none⟩ = some (.string t0) := (blk_cell hSW.2 0).trans rfl; have y3 : wSW.cell? ⟨g7, 1, none⟩ = some (.string t1) := (blk_cell hSW.2 1).trans rfl; go_simp)
        all_goals with_reducible rfl
       case s126 => exact ⟨HPB.out, H7.out⟩
       try simp only [Act.put, List.setIfInBounds_toArray, List.set_cons_zero, List.set_cons_succ]
       refine AnyT.taken (i := 2) (v := ?v127) rfl (by kernel_rfl) (by kernel_rfl) (by kernel_rfl) (by kernel_rfl) (fun _ _ _ h => h) (Or.inl ⟨by rfl, ?y127⟩) ?s127 ?_
       case y127 =>
        intro wSW hSW
        (have y0 : wSW.cell? ⟨gp, 0, none⟩ = some (.slice AN xs.length cN) := (blk_cell hSW.1 0).trans rfl; have y1 : wSW.cell? ⟨gp, 1, none⟩ = some (.slice AT ts.length cT) := (blk_cell hSW.1 1).trans rfl; have y2 : wSW.cell? ⟨g7, 0, none⟩ = some (.string t0) := (blk_cell hSW.2 0).trans rfl; have y3 : wSW.cell? ⟨g7, 1, none⟩ = some (.string t1) := (blk_cell hSW.2 1).trans rfl; go_simp)
        all_goals with_reducible rfl
       case s127 => exact ⟨HPB.out, H7.out⟩
       try simp only [Act.put, List.setIfInBounds_toArray, List.set_cons_zero, List.set_cons_succ]
       refine AnyT.taken (i := 5) (v := ?v128) rfl (by kernel_rfl) (by kernel_rfl) (by kernel_rfl) (by kernel_rfl) (fun _ _ _ h => h) (Or.inl ⟨by rfl, ?y128⟩) ?s128 ?_
       case y128 =>
        intro wSW hSW
        (have y0 : wSW.cell? ⟨gp, 0, none⟩ = some (.slice AN xs.length cN) := (blk_cell hSW.1 0).trans rfl; have y1 : wSW.cell? ⟨gp, 1, none⟩ = some (.slice AT ts.length cT) := (blk_cell hSW.1 1).trans rfl; have y2 : wSW.cell? ⟨g7, 0, none⟩ = some (.string t0) := (blk_cell hSW.2 0).trans rfl; have y3 : wSW.cell? ⟨g7, 1, none⟩ = some (.string t1) := (blk_cell hSW.2 1).trans rfl; go_simp)
        all_goals with_reducible rfl
       case s128 => exact ⟨HPB.out, H7.out⟩
       try simp only [Act.put, List.setIfInBounds_toArray, List.set_cons_zero, List.set_cons_succ]
       refine AnyT.taken (i := 6) (v := ?v129) rfl (by kernel_rfl) (by kernel_rfl) (by kernel_rfl) (by kernel_rfl) (fun _ _ _ h => h) (Or.inl ⟨by rfl, ?y129⟩) ?s129 ?_
       case y129 =>
        intro wSW hSW
        (have y0 : wSW.cell? ⟨gp, 0, none⟩ = some (.slice AN xs.length cN) := (blk_cell hSW.1 0).trans rfl; have y1 : wSW.cell? ⟨gp, 1, none⟩ = some (.slice AT ts.length cT) := (blk_cell hSW.1 1).trans rfl; have y2 : wSW.cell? ⟨g7, 0, none⟩ = some (.string t0) := (blk_cell hSW.2 0).trans rfl; have y3 : wSW.cell? ⟨g7, 1, none⟩ = some (.string t1) := (blk_cell hSW.2 1).trans rfl; go_simp)
        all_goals with_reducible rfl
       case s129 => exact ⟨HPB.out, H7.out⟩
       try simp only [Act.put, List.setIfInBounds_toArray, List.set_cons_zero, List.set_cons_succ]
       refine AnyT.taken (i := 7) (v := ?v130) rfl (by kernel_rfl) (by kernel_rfl) (by kernel_rfl) (by kernel_rfl) (fun _ _ _ h => h) (Or.inl ⟨by rfl, ?y130⟩) ?s130 ?_
       case y130 =>
        intro wSW hSW
        (have y0 : wSW.cell? ⟨gp, 0, none⟩ = some (.slice AN xs.length cN) := (blk_cell hSW.1 0).trans rfl; have y1 : wSW.cell? ⟨gp, 1, none⟩ = some (.slice AT ts.length cT) := (blk_cell hSW.1 1).trans rfl; have y2 : wSW.cell? ⟨g7, 0, none⟩ = some (.string t0) := (blk_cell hSW.2 0).trans rfl; have y3 : wSW.cell? ⟨g7, 1, none⟩ = some (.string t1) := (blk_cell hSW.2 1).trans rfl; go_simp)
        all_goals with_reducible rfl
       case s130 => exact ⟨HPB.out, H7.out⟩
       try simp only [Act.put, List.setIfInBounds_toArray, List.set_cons_zero, List.set_cons_succ]
       refine AnyT.taken (i := 8) (v := ?v131) rfl (by kernel_rfl) (by kernel_rfl) (by kernel_rfl) (by kernel_rfl) (fun _ _ _ h => h) (Or.inl ⟨by rfl, ?y131⟩) ?s131 ?_
       case y131 =>
        intro wSW hSW
        (have y0 : wSW.cell? ⟨gp, 0, none⟩ = some (.slice AN xs.length cN) := (blk_cell hSW.1 0).trans rfl; have y1 : wSW.cell? ⟨gp, 1, none⟩ = some (.slice AT ts.length cT) := (blk_cell hSW.1 1).trans rfl; have y2 : wSW.cell? ⟨g7, 0, none⟩ = some (.string t0) := (blk_cell hSW.2 0).trans rfl; have y3 : wSW.cell? ⟨g7, 1, none⟩ = some (.string t1) := (blk_cell hSW.2 1).trans rfl; go_simp)
        all_goals with_reducible rfl
       case s131 => exact ⟨HPB.out, H7.out⟩
       try simp only [Act.put, List.setIfInBounds_toArray, List.set_cons_zero, List.set_cons_succ]
       refine AnyT.taken (i := 9) (v := ?v132) rfl (by kernel_rfl) (by kernel_rfl) (by kernel_rfl) (by kernel_rfl) (fun _ _ _ h => h) (Or.inl ⟨by rfl, ?y132⟩) ?s132 ?_
       case y132 =>
        intro wSW hSW
        (have y0 : wSW.cell? ⟨gp, 0, none⟩ = some (.slice AN xs.length cN) := (blk_cell hSW.1 0).trans rfl; have y1 : wSW.cell? ⟨gp, 1, none⟩ = some (.slice AT ts.length cT) := (blk_cell hSW.1 1).trans rfl; have y2 : wSW.cell? ⟨g7, 0, none⟩ = some (.string t0) := (blk_cell hSW.2 0).trans rfl; have y3 : wSW.cell? ⟨g7, 1, none⟩ = some (.string t1) := (blk_cell hSW.2 1).trans rfl; go_simp)
        all_goals with_reducible rfl
       case s132 => exact ⟨HPB.out, H7.out⟩
       try simp only [Act.put, List.setIfInBounds_toArray, List.set_cons_zero, List.set_cons_succ]
       refine AnyT.taken (i := 10) (v := ?v133) rfl (by kernel_rfl) (by kernel_rfl) (by kernel_rfl) (by kernel_rfl) (fun _ _ _ h => h) (Or.inl ⟨by rfl, ?y133⟩) ?s133 ?_
       case y133 =>
        intro wSW hSW
        (have y0 : wSW.cell? ⟨gp, 0, none⟩ = some (.slice AN xs.length cN) := (blk_cell hSW.1 0).trans rfl; have y1 : wSW.cell? ⟨gp, 1, none⟩ = some (.slice AT ts.length cT) := (blk_cell hSW.1 1).trans rfl; have y2 : wSW.cell? ⟨g7, 0, none⟩ = some (.string t0) := (blk_cell hSW.2 0).trans rfl; have y3 : wSW.cell? ⟨g7, 1, none⟩ = some (.string t1) := (blk_cell hSW.2 1).trans rfl; go_simp)
        all_goals with_reducible rfl
       case s133 => exact ⟨HPB.out, H7.out⟩
       try simp only [Act.put, List.setIfInBounds_toArray, List.set_cons_zero, List.set_cons_succ]
       refine AnyT.ready (rs := [3, 11]) (by kernel_rfl) (by simp) (AllT.step rfl (fun K hK => ?b13403) (AllT.step rfl (fun K hK => ?b13411) AllT.nil))
       case b13403 =>
        (refine Kd.R_lit_step (Kd.int .i64) (w0 := w) w.heap.size 3 (by rfl) (N := 49) (by rfl) (xs := [1]) (inner := [.int .i64 1]) (ok := fun _ => True) (okp := fun _ => True) ?hr (reps_ints _ _ _ [1]) (fun _ h => h) trivial HB.out HB.out.size (by simp) ?_; (case hr => first | (go_simp; done) | (go_simp; rfl)); intro vx w9 ho hb hg hat; (try replace FA := Aside0.mk (Kd.R_grown FA.out hg (fun _ _ => by simp))); (try replace FL := Aside0.mk (Kd.R_grown FL.out hg (fun _ _ => by simp))); replace FN := Aside0.mk (Kd.R_grown FN.out hg (fun _ _ => by simp)); replace FT := Aside0.mk (Kd.R_grown FT.out hg (fun _ _ => by simp)); replace HPB := Aside0.mk (blk_grown HPB.out hg (by simp)); replace H7 := Aside0.mk (blk_grown H7.out hg (by simp)); replace HL := Aside0.mk (blk_grown HL.out hg (by simp)); replace HB := Aside0.mk hb; obtain ⟨A49, c49, e9⟩ := Kd.R_slice ho; subst e9; have FA := Aside0.mk ho; clear ho hb hg hat)
        refine hK.out _ _ ?_ ?_
        ·intro _; exact ⟨HPB.out, H7.out⟩
        clear hK K
        try simp only [Act.put, List.setIfInBounds_toArray, List.set_cons_zero, List.set_cons_succ]
        refine AnyT.ready (rs := [4, 11]) (by kernel_rfl) (by simp) (AllT.step rfl (fun K hK => ?b13604) (AllT.step rfl (fun K hK => ?b13611) AllT.nil))
        case b13604 =>
         (refine Kd.R_append_rows_step (Kd.int .i64) (w0 := w) w.heap.size (by rfl) (.tmp 47) (.tmp 49) 45 3 (.int .i64 0) 8 (by rfl) Try.underlying45 info3 rfl (by decide) (by omega) (.slice AN xs.length cN) xs [1] _ _ _ (fun _ => True) (fun _ => False) (by rfl) (by rfl) FN.out (Kd.R_reads' FA.out).2.2 (fun _ _ h => h) (fun _ h => h.elim) (fun _ _ => trivial) HB.out HB.out.size (by have h1 := HXL.out; have h2 := HTL.out; simp only [List.length_cons, List.length_nil]; omega) ?_; intro vx w9 ho hb hg hat; (try replace FT := Aside0.mk (Kd.R_over FT.out FN.out (by decide) hg)); (try replace FL := Aside0.mk (Kd.R_over FL.out FN.out (by decide) hg)); replace HPB := Aside0.mk (blk_grown HPB.out hg (Kd.R_ne FN.out HPB.out (by decide))); replace H7 := Aside0.mk (blk_grown H7.out hg (Kd.R_ne FN.out H7.out (by decide))); replace HL := Aside0.mk (blk_grown HL.out hg (Kd.R_ne FN.out HL.out (by decide))); replace HB := Aside0.mk hb; obtain ⟨A50, c50, e9⟩ := Kd.R_slice ho; simp only [List.length_append, List.length_cons, List.length_nil, Nat.zero_add, Nat.reduceAdd] at e9; subst e9; replace FN := Aside0.mk ho; clear ho hb hg hat FA)
         refine hK.out _ _ ?_ ?_
         ·intro _; exact ⟨HPB.out, H7.out⟩
         clear hK K
         try simp only [Act.put, List.setIfInBounds_toArray, List.set_cons_zero, List.set_cons_succ]
         refine AnyT.taken (i := 13) (v := ?v138) rfl (by kernel_rfl) (by kernel_rfl) (by kernel_rfl) (by kernel_rfl) (fun _ _ _ h => h) (Or.inl ⟨by rfl, ?y138⟩) ?s138 ?_
         case y138 =>
          intro wSW hSW
          (have y0 : wSW.cell? ⟨gp, 0, none⟩ = some (.slice AN xs.length cN) := (blk_cell hSW.1 0).trans rfl; have y1 : wSW.cell? ⟨gp, 1, none⟩ = some (.slice AT ts.length cT) := (blk_cell hSW.1 1).trans rfl; have y2 : wSW.cell? ⟨g7, 0, none⟩ = some (.string t0) := (blk_cell hSW.2 0).trans rfl; have y3 : wSW.cell? ⟨g7, 1, none⟩ = some (.string t1) := (blk_cell hSW.2 1).trans rfl; go_simp)
          all_goals with_reducible rfl
         case s138 => exact ⟨HPB.out, H7.out⟩
         try simp only [Act.put, List.setIfInBounds_toArray, List.set_cons_zero, List.set_cons_succ]
         refine AnyT.ready (rs := [11]) (by kernel_rfl) (by simp) (AllT.step rfl (fun K hK => ?b13911) AllT.nil)
         case b13911 =>
          (refine Kd.R_lit_step Kd.string (w0 := w) w.heap.size 9 (by rfl) (N := 57) (by rfl) (xs := [t0, t1]) (inner := [.string t0, .string t1]) (ok := fun _ => True) (okp := fun _ => True) ?hr (reps_texts _ _ _ [t0, t1]) (fun _ h => h) trivial HB.out HB.out.size (by simp) ?_; (case hr => first | (go_simp; done) | (go_simp; rfl)); intro vx w9 ho hb hg hat; (try replace FA := Aside0.mk (Kd.R_grown FA.out hg (fun _ _ => by simp))); (try replace FL := Aside0.mk (Kd.R_grown FL.out hg (fun _ _ => by simp))); replace FN := Aside0.mk (Kd.R_grown FN.out hg (fun _ _ => by simp)); replace FT := Aside0.mk (Kd.R_grown FT.out hg (fun _ _ => by simp)); replace HPB := Aside0.mk (blk_grown HPB.out hg (by simp)); replace H7 := Aside0.mk (blk_grown H7.out hg (by simp)); replace HL := Aside0.mk (blk_grown HL.out hg (by simp)); replace HB := Aside0.mk hb; obtain ⟨A57, c57, e9⟩ := Kd.R_slice ho; subst e9; have FL := Aside0.mk ho; clear ho hb hg hat)
          refine hK.out _ _ ?_ ?_
          ·intro _; exact ⟨HPB.out, H7.out⟩
          clear hK K
          try simp only [Act.put, List.setIfInBounds_toArray, List.set_cons_zero, List.set_cons_succ]
          refine AnyT.ready (rs := [12]) (by kernel_rfl) (by simp) (AllT.step rfl (fun K hK => ?b14112) AllT.nil)
          case b14112 =>
           (refine Kd.R_append_rows_step Kd.string (w0 := w) w.heap.size (by rfl) (.tmp 52) (.tmp 57) 22 9 (.string ⟨#[]⟩) 16 (by rfl) Try.underlying22 info9 rfl (by decide) (by omega) (.slice AT ts.length cT) ts [t0, t1] _ _ _ (fun _ => True) (fun _ => False) (by rfl) (by rfl) FT.out (Kd.R_reads' FL.out).2.2 (fun _ _ h => h) (fun _ h => h.elim) (fun _ _ => trivial) HB.out HB.out.size (by have h1 := HXL.out; have h2 := HTL.out; simp only [List.length_cons, List.length_nil]; omega) ?_; intro vx w9 ho hb hg hat; (try replace FN := Aside0.mk (Kd.R_over FN.out FT.out (by decide) hg)); replace HPB := Aside0.mk (blk_grown HPB.out hg (Kd.R_ne FT.out HPB.out (by decide))); replace H7 := Aside0.mk (blk_grown H7.out hg (Kd.R_ne FT.out H7.out (by decide))); replace HL := Aside0.mk (blk_grown HL.out hg (Kd.R_ne FT.out HL.out (by decide))); replace HB := Aside0.mk hb; obtain ⟨A58, c58, e9⟩ := Kd.R_slice ho; simp only [List.length_append, List.length_cons, List.length_nil, Nat.zero_add, Nat.reduceAdd] at e9; subst e9; replace FT := Aside0.mk ho; clear ho hb hg hat FL)
           refine hK.out _ _ ?_ ?_
           ·intro _; exact ⟨HPB.out, H7.out⟩
           clear hK K
           try simp only [Act.put, List.setIfInBounds_toArray, List.set_cons_zero, List.set_cons_succ]
           refine AnyT.ready (rs := [14]) (by kernel_rfl) (by simp) (AllT.step rfl (fun K hK => ?b14314) AllT.nil)
           case b14314 =>
            (have hs0 : w9.cell? ⟨gp, 0, none⟩ = some (.slice AN xs.length cN) := (blk_cell HPB.out 0).trans rfl; have hf0 := blk_frozen HPB.out 0; go_simp)
            refine hK.out _ _ ?_ ?_
            ·exact past (by kernel_rfl)
            clear hK K
            try simp only [Act.put, List.setIfInBounds_toArray, List.set_cons_zero, List.set_cons_succ]
            refine AnyT.ready (rs := [15]) (by kernel_rfl) (by simp) (AllT.step rfl (fun K hK => ?b14515) AllT.nil)
            case b14515 =>
             go_simp
             refine hK.out _ _ ?_ ?_
             ·exact past (by kernel_rfl)
             clear hK K
             try simp only [Act.put, List.setIfInBounds_toArray, List.set_cons_zero, List.set_cons_succ]
             refine AnyT.ready (rs := [16]) (by kernel_rfl) (by simp) (AllT.step rfl (fun K hK => ?b14716) AllT.nil)
             case b14716 =>
              (have hs1 : (w9.setCell ⟨gp, 0, none⟩ (.slice A50 (xs.length + 1) c50)).cell? ⟨gp, 1, none⟩ = some (.slice AT ts.length cT) := (blk_cell (blk_set HPB.out 0 (.slice A50 (xs.length + 1) c50)) 1).trans rfl; have hf1 := blk_frozen (blk_set HPB.out 0 (.slice A50 (xs.length + 1) c50)) 1; go_simp)
              refine hK.out _ _ ?_ ?_
              ·exact past (by kernel_rfl)
              clear hK K
              try simp only [Act.put, List.setIfInBounds_toArray, List.set_cons_zero, List.set_cons_succ]
              refine AnyT.done (by kernel_rfl) ?_ _
              refine NoPanic.normal ?_
              (have HE := Aside0.mk (PE.of HL.out HB.out FN.out FT.out HPB.out HG.out); have hm := Aside0.mk (round_less hx.out HLT.out); clear FN FT HPB HB H7 HL HG; go_wp2; rw [HW.out]; exact ⟨⟨i + 1, x + 1, xs ++ [1], ts ++ [t0, t1], _, _, rfl, HI, ⟨HLT.out⟩, ⟨HXS.out.symm⟩, ⟨HTS.out.symm⟩, HE⟩, hm.out⟩)
        case b13611 =>
         (refine Kd.R_lit_step Kd.string (w0 := w) w.heap.size 9 (by rfl) (N := 57) (by rfl) (xs := [t0, t1]) (inner := [.string t0, .string t1]) (ok := fun _ => True) (okp := fun _ => True) ?hr (reps_texts _ _ _ [t0, t1]) (fun _ h => h) trivial HB.out HB.out.size (by simp) ?_; (case hr => first | (go_simp; done) | (go_simp; rfl)); intro vx w9 ho hb hg hat; (try replace FA := Aside0.mk (Kd.R_grown FA.out hg (fun _ _ => by simp))); (try replace FL := Aside0.mk (Kd.R_grown FL.out hg (fun _ _ => by simp))); replace FN := Aside0.mk (Kd.R_grown FN.out hg (fun _ _ => by simp)); replace FT := Aside0.mk (Kd.R_grown FT.out hg (fun _ _ => by simp)); replace HPB := Aside0.mk (blk_grown HPB.out hg (by simp)); replace H7 := Aside0.mk (blk_grown H7.out hg (by simp)); replace HL := Aside0.mk (blk_grown HL.out hg (by simp)); replace HB := Aside0.mk hb; obtain ⟨A57, c57, e9⟩ := Kd.R_slice ho; subst e9; have FL := Aside0.mk ho; clear ho hb hg hat)
         refine hK.out _ _ ?_ ?_
         ·intro _; exact ⟨HPB.out, H7.out⟩
         clear hK K
         try simp only [Act.put, List.setIfInBounds_toArray, List.set_cons_zero, List.set_cons_succ]
         refine AnyT.ready (rs := [4]) (by kernel_rfl) (by simp) (AllT.step rfl (fun K hK => ?b15104) AllT.nil)
         case b15104 =>
          (refine Kd.R_append_rows_step (Kd.int .i64) (w0 := w) w.heap.size (by rfl) (.tmp 47) (.tmp 49) 45 3 (.int .i64 0) 8 (by rfl) Try.underlying45 info3 rfl (by decide) (by omega) (.slice AN xs.length cN) xs [1] _ _ _ (fun _ => True) (fun _ => False) (by rfl) (by rfl) FN.out (Kd.R_reads' FA.out).2.2 (fun _ _ h => h) (fun _ h => h.elim) (fun _ _ => trivial) HB.out HB.out.size (by have h1 := HXL.out; have h2 := HTL.out; simp only [List.length_cons, List.length_nil]; omega) ?_; intro vx w9 ho hb hg hat; (try replace FT := Aside0.mk (Kd.R_over FT.out FN.out (by decide) hg)); (try replace FL := Aside0.mk (Kd.R_over FL.out FN.out (by decide) hg)); replace HPB := Aside0.mk (blk_grown HPB.out hg (Kd.R_ne FN.out HPB.out (by decide))); replace H7 := Aside0.mk (blk_grown H7.out hg (Kd.R_ne FN.out H7.out (by decide))); replace HL := Aside0.mk (blk_grown HL.out hg (Kd.R_ne FN.out HL.out (by decide))); replace HB := Aside0.mk hb; obtain ⟨A50, c50, e9⟩ := Kd.R_slice ho; simp only [List.length_append, List.length_cons, List.length_nil, Nat.zero_add, Nat.reduceAdd] at e9; subst e9; replace FN := Aside0.mk ho; clear ho hb hg hat FA)
          refine hK.out _ _ ?_ ?_
          ·intro _; exact ⟨HPB.out, H7.out⟩
          clear hK K
          try simp only [Act.put, List.setIfInBounds_toArray, List.set_cons_zero, List.set_cons_succ]
          refine AnyT.taken (i := 13) (v := ?v153) rfl (by kernel_rfl) (by kernel_rfl) (by kernel_rfl) (by kernel_rfl) (fun _ _ _ h => h) (Or.inl ⟨by rfl, ?y153⟩) ?s153 ?_
          case y153 =>
           intro wSW hSW
           (have y0 : wSW.cell? ⟨gp, 0, none⟩ = some (.slice AN xs.length cN) := (blk_cell hSW.1 0).trans rfl; have y1 : wSW.cell? ⟨gp, 1, none⟩ = some (.slice AT ts.length cT) := (blk_cell hSW.1 1).trans rfl; have y2 : wSW.cell? ⟨g7, 0, none⟩ = some (.string t0) := (blk_cell hSW.2 0).trans rfl; have y3 : wSW.cell? ⟨g7, 1, none⟩ = some (.string t1) := (blk_cell hSW.2 1).trans rfl; go_simp)
           all_goals with_reducible rfl
          case s153 => exact ⟨HPB.out, H7.out⟩
          try simp only [Act.put, List.setIfInBounds_toArray, List.set_cons_zero, List.set_cons_succ]
          refine AnyT.ready (rs := [12]) (by kernel_rfl) (by simp) (AllT.step rfl (fun K hK => ?b15412) AllT.nil)
          case b15412 =>
           (refine Kd.R_append_rows_step Kd.string (w0 := w) w.heap.size (by rfl) (.tmp 52) (.tmp 57) 22 9 (.string ⟨#[]⟩) 16 (by rfl) Try.underlying22 info9 rfl (by decide) (by omega) (.slice AT ts.length cT) ts [t0, t1] _ _ _ (fun _ => True) (fun _ => False) (by rfl) (by rfl) FT.out (Kd.R_reads' FL.out).2.2 (fun _ _ h => h) (fun _ h => h.elim) (fun _ _ => trivial) HB.out HB.out.size (by have h1 := HXL.out; have h2 := HTL.out; simp only [List.length_cons, List.length_nil]; omega) ?_; intro vx w9 ho hb hg hat; (try replace FN := Aside0.mk (Kd.R_over FN.out FT.out (by decide) hg)); replace HPB := Aside0.mk (blk_grown HPB.out hg (Kd.R_ne FT.out HPB.out (by decide))); replace H7 := Aside0.mk (blk_grown H7.out hg (Kd.R_ne FT.out H7.out (by decide))); replace HL := Aside0.mk (blk_grown HL.out hg (Kd.R_ne FT.out HL.out (by decide))); replace HB := Aside0.mk hb; obtain ⟨A58, c58, e9⟩ := Kd.R_slice ho; simp only [List.length_append, List.length_cons, List.length_nil, Nat.zero_add, Nat.reduceAdd] at e9; subst e9; replace FT := Aside0.mk ho; clear ho hb hg hat FL)
           refine hK.out _ _ ?_ ?_
           ·intro _; exact ⟨HPB.out, H7.out⟩
           clear hK K
           try simp only [Act.put, List.setIfInBounds_toArray, List.set_cons_zero, List.set_cons_succ]
           refine AnyT.ready (rs := [14]) (by kernel_rfl) (by simp) (AllT.step rfl (fun K hK => ?b15614) AllT.nil)
           case b15614 =>
            (have hs0 : w9.cell? ⟨gp, 0, none⟩ = some (.slice AN xs.length cN) := (blk_cell HPB.out 0).trans rfl; have hf0 := blk_frozen HPB.out 0; go_simp)
            refine hK.out _ _ ?_ ?_
            ·exact past (by kernel_rfl)
            clear hK K
            try simp only [Act.put, List.setIfInBounds_toArray, List.set_cons_zero, List.set_cons_succ]
            refine AnyT.ready (rs := [15]) (by kernel_rfl) (by simp) (AllT.step rfl (fun K hK => ?b15815) AllT.nil)
            case b15815 =>
             go_simp
             refine hK.out _ _ ?_ ?_
             ·exact past (by kernel_rfl)
             clear hK K
             try simp only [Act.put, List.setIfInBounds_toArray, List.set_cons_zero, List.set_cons_succ]
             refine AnyT.ready (rs := [16]) (by kernel_rfl) (by simp) (AllT.step rfl (fun K hK => ?b16016) AllT.nil)
             case b16016 =>
              (have hs1 : (w9.setCell ⟨gp, 0, none⟩ (.slice A50 (xs.length + 1) c50)).cell? ⟨gp, 1, none⟩ = some (.slice AT ts.length cT) := (blk_cell (blk_set HPB.out 0 (.slice A50 (xs.length + 1) c50)) 1).trans rfl; have hf1 := blk_frozen (blk_set HPB.out 0 (.slice A50 (xs.length + 1) c50)) 1; go_simp)
              refine hK.out _ _ ?_ ?_
              ·exact past (by kernel_rfl)
              clear hK K
              try simp only [Act.put, List.setIfInBounds_toArray, List.set_cons_zero, List.set_cons_succ]
              refine AnyT.done (by kernel_rfl) ?_ _
              refine NoPanic.normal ?_
              (have HE := Aside0.mk (PE.of HL.out HB.out FN.out FT.out HPB.out HG.out); have hm := Aside0.mk (round_less hx.out HLT.out); clear FN FT HPB HB H7 HL HG; go_wp2; rw [HW.out]; exact ⟨⟨i + 1, x + 1, xs ++ [1], ts ++ [t0, t1], _, _, rfl, HI, ⟨HLT.out⟩, ⟨HXS.out.symm⟩, ⟨HTS.out.symm⟩, HE⟩, hm.out⟩)
       case b13411 =>
        (refine Kd.R_lit_step Kd.string (w0 := w) w.heap.size 9 (by rfl) (N := 57) (by rfl) (xs := [t0, t1]) (inner := [.string t0, .string t1]) (ok := fun _ => True) (okp := fun _ => True) ?hr (reps_texts _ _ _ [t0, t1]) (fun _ h => h) trivial HB.out HB.out.size (by simp) ?_; (case hr => first | (go_simp; done) | (go_simp; rfl)); intro vx w9 ho hb hg hat; (try replace FA := Aside0.mk (Kd.R_grown FA.out hg (fun _ _ => by simp))); (try replace FL := Aside0.mk (Kd.R_grown FL.out hg (fun _ _ => by simp))); replace FN := Aside0.mk (Kd.R_grown FN.out hg (fun _ _ => by simp)); replace FT := Aside0.mk (Kd.R_grown FT.out hg (fun _ _ => by simp)); replace HPB := Aside0.mk (blk_grown HPB.out hg (by simp)); replace H7 := Aside0.mk (blk_grown H7.out hg (by simp)); replace HL := Aside0.mk (blk_grown HL.out hg (by simp)); replace HB := Aside0.mk hb; obtain ⟨A57, c57, e9⟩ := Kd.R_slice ho; subst e9; have FL := Aside0.mk ho; clear ho hb hg hat)
        refine hK.out _ _ ?_ ?_
        ·intro _; exact ⟨HPB.out, H7.out⟩
        clear hK K
        try simp only [Act.put, List.setIfInBounds_toArray, List.set_cons_zero, List.set_cons_succ]
        refine AnyT.ready (rs := [3]) (by kernel_rfl) (by simp) (AllT.step rfl (fun K hK => ?b16403) AllT.nil)
        case b16403 =>
         (refine Kd.R_lit_step (Kd.int .i64) (w0 := w) w.heap.size 3 (by rfl) (N := 49) (by rfl) (xs := [1]) (inner := [.int .i64 1]) (ok := fun _ => True) (okp := fun _ => True) ?hr (reps_ints _ _ _ [1]) (fun _ h => h) trivial HB.out HB.out.size (by simp) ?_; (case hr => first | (go_simp; done) | (go_simp; rfl)); intro vx w9 ho hb hg hat; (try replace FA := Aside0.mk (Kd.R_grown FA.out hg (fun _ _ => by simp))); (try replace FL := Aside0.mk (Kd.R_grown FL.out hg (fun _ _ => by simp))); replace FN := Aside0.mk (Kd.R_grown FN.out hg (fun _ _ => by simp)); replace FT := Aside0.mk (Kd.R_grown FT.out hg (fun _ _ => by simp)); replace HPB := Aside0.mk (blk_grown HPB.out hg (by simp)); replace H7 := Aside0.mk (blk_grown H7.out hg (by simp)); replace HL := Aside0.mk (blk_grown HL.out hg (by simp)); replace HB := Aside0.mk hb; obtain ⟨A49, c49, e9⟩ := Kd.R_slice ho; subst e9; have FA := Aside0.mk ho; clear ho hb hg hat)
         refine hK.out _ _ ?_ ?_
         ·intro _; exact ⟨HPB.out, H7.out⟩
         clear hK K
         try simp only [Act.put, List.setIfInBounds_toArray, List.set_cons_zero, List.set_cons_succ]
         refine AnyT.ready (rs := [4]) (by kernel_rfl) (by simp) (AllT.step rfl (fun K hK => ?b16604) AllT.nil)
         case b16604 =>
          (refine Kd.R_append_rows_step (Kd.int .i64) (w0 := w) w.heap.size (by rfl) (.tmp 47) (.tmp 49) 45 3 (.int .i64 0) 8 (by rfl) Try.underlying45 info3 rfl (by decide) (by omega) (.slice AN xs.length cN) xs [1] _ _ _ (fun _ => True) (fun _ => False) (by rfl) (by rfl) FN.out (Kd.R_reads' FA.out).2.2 (fun _ _ h => h) (fun _ h => h.elim) (fun _ _ => trivial) HB.out HB.out.size (by have h1 := HXL.out; have h2 := HTL.out; simp only [List.length_cons, List.length_nil]; omega) ?_; intro vx w9 ho hb hg hat; (try replace FT := Aside0.mk (Kd.R_over FT.out FN.out (by decide) hg)); (try replace FL := Aside0.mk (Kd.R_over FL.out FN.out (by decide) hg)); replace HPB := Aside0.mk (blk_grown HPB.out hg (Kd.R_ne FN.out HPB.out (by decide))); replace H7 := Aside0.mk (blk_grown H7.out hg (Kd.R_ne FN.out H7.out (by decide))); replace HL := Aside0.mk (blk_grown HL.out hg (Kd.R_ne FN.out HL.out (by decide))); replace HB := Aside0.mk hb; obtain ⟨A50, c50, e9⟩ := Kd.R_slice ho; simp only [List.length_append, List.length_cons, List.length_nil, Nat.zero_add, Nat.reduceAdd] at e9; subst e9; replace FN := Aside0.mk ho; clear ho hb hg hat FA)
          refine hK.out _ _ ?_ ?_
          ·intro _; exact ⟨HPB.out, H7.out⟩
          clear hK K
          try simp only [Act.put, List.setIfInBounds_toArray, List.set_cons_zero, List.set_cons_succ]
          refine AnyT.taken (i := 13) (v := ?v168) rfl (by kernel_rfl) (by kernel_rfl) (by kernel_rfl) (by kernel_rfl) (fun _ _ _ h => h) (Or.inl ⟨by rfl, ?y168⟩) ?s168 ?_
          case y168 =>
           intro wSW hSW
           (have y0 : wSW.cell? ⟨gp, 0, none⟩ = some (.slice AN xs.length cN) := (blk_cell hSW.1 0).trans rfl; have y1 : wSW.cell? ⟨gp, 1, none⟩ = some (.slice AT ts.length cT) := (blk_cell hSW.1 1).trans rfl; have y2 : wSW.cell? ⟨g7, 0, none⟩ = some (.string t0) := (blk_cell hSW.2 0).trans rfl; have y3 : wSW.cell? ⟨g7, 1, none⟩ = some (.string t1) := (blk_cell hSW.2 1).trans rfl; go_simp)
           all_goals with_reducible rfl
          case s168 => exact ⟨HPB.out, H7.out⟩
          try simp only [Act.put, List.setIfInBounds_toArray, List.set_cons_zero, List.set_cons_succ]
          refine AnyT.ready (rs := [12]) (by kernel_rfl) (by simp) (AllT.step rfl (fun K hK => ?b16912) AllT.nil)
          case b16912 =>
           (refine Kd.R_append_rows_step Kd.string (w0 := w) w.heap.size (by rfl) (.tmp 52) (.tmp 57) 22 9 (.string ⟨#[]⟩) 16 (by rfl) Try.underlying22 info9 rfl (by decide) (by omega) (.slice AT ts.length cT) ts [t0, t1] _ _ _ (fun _ => True) (fun _ => False) (by rfl) (by rfl) FT.out (Kd.R_reads' FL.out).2.2 (fun _ _ h => h) (fun _ h => h.elim) (fun _ _ => trivial) HB.out HB.out.size (by have h1 := HXL.out; have h2 := HTL.out; simp only [List.length_cons, List.length_nil]; omega) ?_; intro vx w9 ho hb hg hat; (try replace FN := Aside0.mk (Kd.R_over FN.out FT.out (by decide) hg)); replace HPB := Aside0.mk (blk_grown HPB.out hg (Kd.R_ne FT.out HPB.out (by decide))); replace H7 := Aside0.mk (blk_grown H7.out hg (Kd.R_ne FT.out H7.out (by decide))); replace HL := Aside0.mk (blk_grown HL.out hg (Kd.R_ne FT.out HL.out (by decide))); replace HB := Aside0.mk hb; obtain ⟨A58, c58, e9⟩ := Kd.R_slice ho; simp only [List.length_append, List.length_cons, List.length_nil, Nat.zero_add, Nat.reduceAdd] at e9; subst e9; replace FT := Aside0.mk ho; clear ho hb hg hat FL)
           refine hK.out _ _ ?_ ?_
           ·intro _; exact ⟨HPB.out, H7.out⟩
           clear hK K
           try simp only [Act.put, List.setIfInBounds_toArray, List.set_cons_zero, List.set_cons_succ]
           refine AnyT.ready (rs := [14]) (by kernel_rfl) (by simp) (AllT.step rfl (fun K hK => ?b17114) AllT.nil)
           case b17114 =>
            (have hs0 : w9.cell? ⟨gp, 0, none⟩ = some (.slice AN xs.length cN) := (blk_cell HPB.out 0).trans rfl; have hf0 := blk_frozen HPB.out 0; go_simp)
            refine hK.out _ _ ?_ ?_
            ·exact past (by kernel_rfl)
            clear hK K
            try simp only [Act.put, List.setIfInBounds_toArray, List.set_cons_zero, List.set_cons_succ]
            refine AnyT.ready (rs := [15]) (by kernel_rfl) (by simp) (AllT.step rfl (fun K hK => ?b17315) AllT.nil)
            case b17315 =>
             go_simp
             refine hK.out _ _ ?_ ?_
             ·exact past (by kernel_rfl)
             clear hK K
             try simp only [Act.put, List.setIfInBounds_toArray, List.set_cons_zero, List.set_cons_succ]
             refine AnyT.ready (rs := [16]) (by kernel_rfl) (by simp) (AllT.step rfl (fun K hK => ?b17516) AllT.nil)
             case b17516 =>
              (have hs1 : (w9.setCell ⟨gp, 0, none⟩ (.slice A50 (xs.length + 1) c50)).cell? ⟨gp, 1, none⟩ = some (.slice AT ts.length cT) := (blk_cell (blk_set HPB.out 0 (.slice A50 (xs.length + 1) c50)) 1).trans rfl; have hf1 := blk_frozen (blk_set HPB.out 0 (.slice A50 (xs.length + 1) c50)) 1; go_simp)
              refine hK.out _ _ ?_ ?_
              ·exact past (by kernel_rfl)
              clear hK K
              try simp only [Act.put, List.setIfInBounds_toArray, List.set_cons_zero, List.set_cons_succ]
              refine AnyT.done (by kernel_rfl) ?_ _
              refine NoPanic.normal ?_
              (have HE := Aside0.mk (PE.of HL.out HB.out FN.out FT.out HPB.out HG.out); have hm := Aside0.mk (round_less hx.out HLT.out); clear FN FT HPB HB H7 HL HG; go_wp2; rw [HW.out]; exact ⟨⟨i + 1, x + 1, xs ++ [1], ts ++ [t0, t1], _, _, rfl, HI, ⟨HLT.out⟩, ⟨HXS.out.symm⟩, ⟨HTS.out.symm⟩, HE⟩, hm.out⟩)
      |false =>
       have HP1 := Aside0.mk (HP.out.drew)
       go_wp2_with (first | ((with_reducible refine gate_dst (N := 7) rfl ?_); refine box_event ?hg (N := 7) ?hd (cs := #[.string (⟨#[]⟩ : ByteArray), .string (⟨#[]⟩ : ByteArray), .bool false]) (t := 49) ?hr ?_; (case hd => rfl); (case hg => rfl); (case hr => first | (go_simp; done) | (go_simp; rfl)); intro g7 hg w7 hbox hb; have HP7 := Aside0.mk (HP.out.below hb); have B7 := Aside0.mk hbox; have G7 : Aside0 (w.heap.size ≤ g7) := ⟨by rw [hg]; exact HP.out.bel.size⟩; replace hx0 := (hb.cell (World.block_lt_of_cell? _ _ hx0)).trans hx0; replace hx1 := (hb.cell (World.block_lt_of_cell? _ _ hx1)).trans hx1; replace hx2 := (hb.cell (World.block_lt_of_cell? _ _ hx2)).trans hx2; clear hg hb hbox HP; have hz0 : w7.cell? ⟨g7, 0, none⟩ = some (.string ⟨#[]⟩) := (blk_cell B7.out 0).trans rfl; have hz1 : w7.cell? ⟨g7, 1, none⟩ = some (.string ⟨#[]⟩) := (blk_cell B7.out 1).trans rfl; have hz2 : w7.cell? ⟨g7, 2, none⟩ = some (.bool false) := (blk_cell B7.out 2).trans rfl; have hzf0 := blk_frozen B7.out 0; have hzf1 := blk_frozen B7.out 1; have hzf2 := blk_frozen B7.out 2))
       have H7 := Aside0.mk (show (((w7.setCell ⟨g7, 0, none⟩ (.string t0)).setCell ⟨g7, 1, none⟩ (.string t1)).setCell ⟨g7, 2, none⟩ (.bool false)).drew.heap[g7]? = some (.cells #[.string t0, .string t1, .bool false] 49 (0, 0)) from blk_drew (blk_set (blk_set (blk_set B7.out 0 (.string t0)) 1 (.string t1)) 2 (.bool false)))
       have HPs := Aside0.mk ((((HP7.out.set B7.out G7.out 0 (.string t0)).set (blk_set B7.out 0 _) G7.out 1 (.string t1)).set (blk_set (blk_set B7.out 0 _) 1 _) G7.out 2 (.bool false)).drew)
       have HL := Aside0.mk HPs.out.bl
       have HPB := Aside0.mk HPs.out.bp
       have FN := Aside0.mk HPs.out.ns
       have FT := Aside0.mk HPs.out.ts
       have HB := Aside0.mk HPs.out.bel
       have HG := Aside0.mk HPs.out.gep
       clear HPs HP7 B7 G7 hz0 hz1 hz2 hzf0 hzf1 hzf2 hx0 hx1 hx2
       refine wp_region_noPanic ?_
       refine rt_begin (S := (fun W => W.heap[gp]? = some (.cells #[.slice AN xs.length cN, .slice AT ts.length cT] 47 (0, 0)) ∧ W.heap[g7]? = some (.cells #[.string t0, .string t1, .bool false] 49 (0, 0)))) (s := 14) (by kernel_rfl) ?_
       refine AnyT.taken (i := 0) (v := ?v178) rfl (by kernel_rfl) (by kernel_rfl) (by kernel_rfl) (by kernel_rfl) (fun _ _ _ h => h) (Or.inl ⟨by rfl, ?y178⟩) ?s178 ?_
       case y178 =>
        intro wSW hSW
        (have y0 : wSW.cell? ⟨gp, 0, none⟩ = some (.slice AN xs.length cN) := (blk_cell hSW.1 0).trans rfl; have y1 : wSW.cell? ⟨gp, 1, none⟩ = some (.slice AT ts.length cT) := (blk_cell hSW.1 1).trans rfl; have y2 : wSW.cell? ⟨g7, 0, none⟩ = some (.string t0) := (blk_cell hSW.2 0).trans rfl; have y3 : wSW.cell? ⟨g7, 1, none⟩ = some (.string t1) := (blk_cell hSW.2 1).trans rfl; go_simp)
        all_goals with_reducible rfl
       case s178 => exact ⟨HPB.out, H7.out⟩
       try simp only [Act.put, List.setIfInBounds_toArray, List.set_cons_zero, List.set_cons_succ]
       refine AnyT.taken (i := 1) (v := ?v179) rfl (by kernel_rfl) (by kernel_rfl) (by kernel_rfl) (by kernel_rfl) (fun _ _ _ h => h) (Or.inl ⟨by rfl, ?y179⟩) ?s179 ?_
       case y179 =>
        intro wSW hSW
        (have y0 : wSW.cell? ⟨gp, 0, none⟩ = some (.slice AN xs.length cN) := (blk_cell hSW.1 0).trans rfl; have y1 : wSW.cell? ⟨gp, 1, none⟩ = some (.slice AT ts.length cT) := (blk_cell hSW.1 1).trans rfl; have y2 : wSW.cell? ⟨g7, 0, none⟩ = some (.string t0) := (blk_cell hSW.2 0).trans rfl; have y3 : wSW.cell? ⟨g7, 1, none⟩ = some (.string t1) := (blk_cell hSW.2 1).trans rfl; go_simp)
        all_goals with_reducible rfl
       case s179 => exact ⟨HPB.out, H7.out⟩
       try simp only [Act.put, List.setIfInBounds_toArray, List.set_cons_zero, List.set_cons_succ]
       refine AnyT.taken (i := 2) (v := ?v180) rfl (by kernel_rfl) (by kernel_rfl) (by kernel_rfl) (by kernel_rfl) (fun _ _ _ h => h) (Or.inl ⟨by rfl, ?y180⟩) ?s180 ?_
       case y180 =>
        intro wSW hSW
        (have y0 : wSW.cell? ⟨gp, 0, none⟩ = some (.slice AN xs.length cN) := (blk_cell hSW.1 0).trans rfl; have y1 : wSW.cell? ⟨gp, 1, none⟩ = some (.slice AT ts.length cT) := (blk_cell hSW.1 1).trans rfl; have y2 : wSW.cell? ⟨g7, 0, none⟩ = some (.string t0) := (blk_cell hSW.2 0).trans rfl; have y3 : wSW.cell? ⟨g7, 1, none⟩ = some (.string t1) := (blk_cell hSW.2 1).trans rfl; go_simp)
        all_goals with_reducible rfl
       case s180 => exact ⟨HPB.out, H7.out⟩
       try simp only [Act.put, List.setIfInBounds_toArray, List.set_cons_zero, List.set_cons_succ]
       refine AnyT.taken (i := 5) (v := ?v181) rfl (by kernel_rfl) (by kernel_rfl) (by kernel_rfl) (by kernel_rfl) (fun _ _ _ h => h) (Or.inl ⟨by rfl, ?y181⟩) ?s181 ?_
       case y181 =>
        intro wSW hSW
        (have y0 : wSW.cell? ⟨gp, 0, none⟩ = some (.slice AN xs.length cN) := (blk_cell hSW.1 0).trans rfl; have y1 : wSW.cell? ⟨gp, 1, none⟩ = some (.slice AT ts.length cT) := (blk_cell hSW.1 1).trans rfl; have y2 : wSW.cell? ⟨g7, 0, none⟩ = some (.string t0) := (blk_cell hSW.2 0).trans rfl; have y3 : wSW.cell? ⟨g7, 1, none⟩ = some (.string t1) := (blk_cell hSW.2 1).trans rfl; go_simp)
        all_goals with_reducible rfl
       case s181 => exact ⟨HPB.out, H7.out⟩
       try simp only [Act.put, List.setIfInBounds_toArray, List.set_cons_zero, List.set_cons_succ]
       refine AnyT.taken (i := 6) (v := ?v182) rfl (by kernel_rfl) (by kernel_rfl) (by kernel_rfl) (by kernel_rfl) (fun _ _ _ h => h) (Or.inl ⟨by rfl, ?y182⟩) ?s182 ?_
       case y182 =>
        intro wSW hSW
        (have y0 : wSW.cell? ⟨gp, 0, none⟩ = some (.slice AN xs.length cN) := (blk_cell hSW.1 0).trans rfl; have y1 : wSW.cell? ⟨gp, 1, none⟩ = some (.slice AT ts.length cT) := (blk_cell hSW.1 1).trans rfl; have y2 : wSW.cell? ⟨g7, 0, none⟩ = some (.string t0) := (blk_cell hSW.2 0).trans rfl; have y3 : wSW.cell? ⟨g7, 1, none⟩ = some (.string t1) := (blk_cell hSW.2 1).trans rfl; go_simp)
        all_goals with_reducible rfl
       case s182 => exact ⟨HPB.out, H7.out⟩
       try simp only [Act.put, List.setIfInBounds_toArray, List.set_cons_zero, List.set_cons_succ]
       refine AnyT.taken (i := 7) (v := ?v183) rfl (by kernel_rfl) (by kernel_rfl) (by kernel_rfl) (by kernel_rfl) (fun _ _ _ h => h) (Or.inl ⟨by rfl, ?y183⟩) ?s183 ?_
       case y183 =>
        intro wSW hSW
        (have y0 : wSW.cell? ⟨gp, 0, none⟩ = some (.slice AN xs.length cN) := (blk_cell hSW.1 0).trans rfl; have y1 : wSW.cell? ⟨gp, 1, none⟩ = some (.slice AT ts.length cT) := (blk_cell hSW.1 1).trans rfl; have y2 : wSW.cell? ⟨g7, 0, none⟩ = some (.string t0) := (blk_cell hSW.2 0).trans rfl; have y3 : wSW.cell? ⟨g7, 1, none⟩ = some (.string t1) := (blk_cell hSW.2 1).trans rfl; go_simp)
        all_goals with_reducible rfl
       case s183 => exact ⟨HPB.out, H7.out⟩
       try simp only [Act.put, List.setIfInBounds_toArray, List.set_cons_zero, List.set_cons_succ]
       refine AnyT.taken (i := 8) (v := ?v184) rfl (by kernel_rfl) (by kernel_rfl) (by kernel_rfl) (by kernel_rfl) (fun _ _ _ h => h) (Or.inl ⟨by rfl, ?y184⟩) ?s184 ?_
       case y184 =>
        intro wSW hSW
        (have y0 : wSW.cell? ⟨gp, 0, none⟩ = some (.slice AN xs.length cN) := (blk_cell hSW.1 0).trans rfl; have y1 : wSW.cell? ⟨gp, 1, none⟩ = some (.slice AT ts.length cT) := (blk_cell hSW.1 1).trans rfl; have y2 : wSW.cell? ⟨g7, 0, none⟩ = some (.string t0) := (blk_cell hSW.2 0).trans rfl; have y3 : wSW.cell? ⟨g7, 1, none⟩ = some (.string t1) := (blk_cell hSW.2 1).trans rfl; go_simp)
        all_goals with_reducible rfl
       case s184 => exact ⟨HPB.out, H7.out⟩
       try simp only [Act.put, List.setIfInBounds_toArray, List.set_cons_zero, List.set_cons_succ]
       refine AnyT.taken (i := 9) (v := ?v185) rfl (by kernel_rfl) (by kernel_rfl) (by kernel_rfl) (by kernel_rfl) (fun _ _ _ h => h) (Or.inl ⟨by rfl, ?y185⟩) ?s185 ?_
       case y185 =>
        intro wSW hSW
        (have y0 : wSW.cell? ⟨gp, 0, none⟩ = some (.slice AN xs.length cN) := (blk_cell hSW.1 0).trans rfl; have y1 : wSW.cell? ⟨gp, 1, none⟩ = some (.slice AT ts.length cT) := (blk_cell hSW.1 1).trans rfl; have y2 : wSW.cell? ⟨g7, 0, none⟩ = some (.string t0) := (blk_cell hSW.2 0).trans rfl; have y3 : wSW.cell? ⟨g7, 1, none⟩ = some (.string t1) := (blk_cell hSW.2 1).trans rfl; go_simp)
        all_goals with_reducible rfl
       case s185 => exact ⟨HPB.out, H7.out⟩
       try simp only [Act.put, List.setIfInBounds_toArray, List.set_cons_zero, List.set_cons_succ]
       refine AnyT.taken (i := 10) (v := ?v186) rfl (by kernel_rfl) (by kernel_rfl) (by kernel_rfl) (by kernel_rfl) (fun _ _ _ h => h) (Or.inl ⟨by rfl, ?y186⟩) ?s186 ?_
       case y186 =>
        intro wSW hSW
        (have y0 : wSW.cell? ⟨gp, 0, none⟩ = some (.slice AN xs.length cN) := (blk_cell hSW.1 0).trans rfl; have y1 : wSW.cell? ⟨gp, 1, none⟩ = some (.slice AT ts.length cT) := (blk_cell hSW.1 1).trans rfl; have y2 : wSW.cell? ⟨g7, 0, none⟩ = some (.string t0) := (blk_cell hSW.2 0).trans rfl; have y3 : wSW.cell? ⟨g7, 1, none⟩ = some (.string t1) := (blk_cell hSW.2 1).trans rfl; go_simp)
        all_goals with_reducible rfl
       case s186 => exact ⟨HPB.out, H7.out⟩
       try simp only [Act.put, List.setIfInBounds_toArray, List.set_cons_zero, List.set_cons_succ]
       refine AnyT.ready (rs := [3, 11]) (by kernel_rfl) (by simp) (AllT.step rfl (fun K hK => ?b18703) (AllT.step rfl (fun K hK => ?b18711) AllT.nil))
       case b18703 =>
        (refine Kd.R_lit_step (Kd.int .i64) (w0 := w) w.heap.size 3 (by rfl) (N := 49) (by rfl) (xs := [0]) (inner := [.int .i64 0]) (ok := fun _ => True) (okp := fun _ => True) ?hr (reps_ints _ _ _ [0]) (fun _ h => h) trivial HB.out HB.out.size (by simp) ?_; (case hr => first | (go_simp; done) | (go_simp; rfl)); intro vx w9 ho hb hg hat; (try replace FA := Aside0.mk (Kd.R_grown FA.out hg (fun _ _ => by simp))); (try replace FL := Aside0.mk (Kd.R_grown FL.out hg (fun _ _ => by simp))); replace FN := Aside0.mk (Kd.R_grown FN.out hg (fun _ _ => by simp)); replace FT := Aside0.mk (Kd.R_grown FT.out hg (fun _ _ => by simp)); replace HPB := Aside0.mk (blk_grown HPB.out hg (by simp)); replace H7 := Aside0.mk (blk_grown H7.out hg (by simp)); replace HL := Aside0.mk (blk_grown HL.out hg (by simp)); replace HB := Aside0.mk hb; obtain ⟨A49, c49, e9⟩ := Kd.R_slice ho; subst e9; have FA := Aside0.mk ho; clear ho hb hg hat)
        refine hK.out _ _ ?_ ?_
        ·intro _; exact ⟨HPB.out, H7.out⟩
        clear hK K
        try simp only [Act.put, List.setIfInBounds_toArray, List.set_cons_zero, List.set_cons_succ]
        refine AnyT.ready (rs := [4, 11]) (by kernel_rfl) (by simp) (AllT.step rfl (fun K hK => ?b18904) (AllT.step rfl (fun K hK => ?b18911) AllT.nil))
        case b18904 =>
         (refine Kd.R_append_rows_step (Kd.int .i64) (w0 := w) w.heap.size (by rfl) (.tmp 47) (.tmp 49) 45 3 (.int .i64 0) 8 (by rfl) Try.underlying45 info3 rfl (by decide) (by omega) (.slice AN xs.length cN) xs [0] _ _ _ (fun _ => True) (fun _ => False) (by rfl) (by rfl) FN.out (Kd.R_reads' FA.out).2.2 (fun _ _ h => h) (fun _ h => h.elim) (fun _ _ => trivial) HB.out HB.out.size (by have h1 := HXL.out; have h2 := HTL.out; simp only [List.length_cons, List.length_nil]; omega) ?_; intro vx w9 ho hb hg hat; (try replace FT := Aside0.mk (Kd.R_over FT.out FN.out (by decide) hg)); (try replace FL := Aside0.mk (Kd.R_over FL.out FN.out (by decide) hg)); replace HPB := Aside0.mk (blk_grown HPB.out hg (Kd.R_ne FN.out HPB.out (by decide))); replace H7 := Aside0.mk (blk_grown H7.out hg (Kd.R_ne FN.out H7.out (by decide))); replace HL := Aside0.mk (blk_grown HL.out hg (Kd.R_ne FN.out HL.out (by decide))); replace HB := Aside0.mk hb; obtain ⟨A50, c50, e9⟩ := Kd.R_slice ho; simp only [List.length_append, List.length_cons, List.length_nil, Nat.zero_add, Nat.reduceAdd] at e9; subst e9; replace FN := Aside0.mk ho; clear ho hb hg hat FA)
         refine hK.out _ _ ?_ ?_
         ·intro _; exact ⟨HPB.out, H7.out⟩
         clear hK K
         try simp only [Act.put, List.setIfInBounds_toArray, List.set_cons_zero, List.set_cons_succ]
         refine AnyT.taken (i := 13) (v := ?v191) rfl (by kernel_rfl) (by kernel_rfl) (by kernel_rfl) (by kernel_rfl) (fun _ _ _ h => h) (Or.inl ⟨by rfl, ?y191⟩) ?s191 ?_
         case y191 =>
          intro wSW hSW
          (have y0 : wSW.cell? ⟨gp, 0, none⟩ = some (.slice AN xs.length cN) := (blk_cell hSW.1 0).trans rfl; have y1 : wSW.cell? ⟨gp, 1, none⟩ = some (.slice AT ts.length cT) := (blk_cell hSW.1 1).trans rfl; have y2 : wSW.cell? ⟨g7, 0, none⟩ = some (.string t0) := (blk_cell hSW.2 0).trans rfl; have y3 : wSW.cell? ⟨g7, 1, none⟩ = some (.string t1) := (blk_cell hSW.2 1).trans rfl; go_simp)
          all_goals with_reducible rfl
         case s191 => exact ⟨HPB.out, H7.out⟩
         try simp only [Act.put, List.setIfInBounds_toArray, List.set_cons_zero, List.set_cons_succ]
         refine AnyT.ready (rs := [11]) (by kernel_rfl) (by simp) (AllT.step rfl (fun K hK => ?b19211) AllT.nil)
         case b19211 =>
          (refine Kd.R_lit_step Kd.string (w0 := w) w.heap.size 9 (by rfl) (N := 57) (by rfl) (xs := [t0, t1]) (inner := [.string t0, .string t1]) (ok := fun _ => True) (okp := fun _ => True) ?hr (reps_texts _ _ _ [t0, t1]) (fun _ h => h) trivial HB.out HB.out.size (by simp) ?_; (case hr => first | (go_simp; done) | (go_simp; rfl)); intro vx w9 ho hb hg hat; (try replace FA := Aside0.mk (Kd.R_grown FA.out hg (fun _ _ => by simp))); (try replace FL := Aside0.mk (Kd.R_grown FL.out hg (fun _ _ => by simp))); replace FN := Aside0.mk (Kd.R_grown FN.out hg (fun _ _ => by simp)); replace FT := Aside0.mk (Kd.R_grown FT.out hg (fun _ _ => by simp)); replace HPB := Aside0.mk (blk_grown HPB.out hg (by simp)); replace H7 := Aside0.mk (blk_grown H7.out hg (by simp)); replace HL := Aside0.mk (blk_grown HL.out hg (by simp)); replace HB := Aside0.mk hb; obtain ⟨A57, c57, e9⟩ := Kd.R_slice ho; subst e9; have FL := Aside0.mk ho; clear ho hb hg hat)
          refine hK.out _ _ ?_ ?_
          ·intro _; exact ⟨HPB.out, H7.out⟩
          clear hK K
          try simp only [Act.put, List.setIfInBounds_toArray, List.set_cons_zero, List.set_cons_succ]
          refine AnyT.ready (rs := [12]) (by kernel_rfl) (by simp) (AllT.step rfl (fun K hK => ?b19412) AllT.nil)
          case b19412 =>
           (refine Kd.R_append_rows_step Kd.string (w0 := w) w.heap.size (by rfl) (.tmp 52) (.tmp 57) 22 9 (.string ⟨#[]⟩) 16 (by rfl) Try.underlying22 info9 rfl (by decide) (by omega) (.slice AT ts.length cT) ts [t0, t1] _ _ _ (fun _ => True) (fun _ => False) (by rfl) (by rfl) FT.out (Kd.R_reads' FL.out).2.2 (fun _ _ h => h) (fun _ h => h.elim) (fun _ _ => trivial) HB.out HB.out.size (by have h1 := HXL.out; have h2 := HTL.out; simp only [List.length_cons, List.length_nil]; omega) ?_; intro vx w9 ho hb hg hat; (try replace FN := Aside0.mk (Kd.R_over FN.out FT.out (by decide) hg)); replace HPB := Aside0.mk (blk_grown HPB.out hg (Kd.R_ne FT.out HPB.out (by decide))); replace H7 := Aside0.mk (blk_grown H7.out hg (Kd.R_ne FT.out H7.out (by decide))); replace HL := Aside0.mk (blk_grown HL.out hg (Kd.R_ne FT.out HL.out (by decide))); replace HB := Aside0.mk hb; obtain ⟨A58, c58, e9⟩ := Kd.R_slice ho; simp only [List.length_append, List.length_cons, List.length_nil, Nat.zero_add, Nat.reduceAdd] at e9; subst e9; replace FT := Aside0.mk ho; clear ho hb hg hat FL)
           refine hK.out _ _ ?_ ?_
           ·intro _; exact ⟨HPB.out, H7.out⟩
           clear hK K
           try simp only [Act.put, List.setIfInBounds_toArray, List.set_cons_zero, List.set_cons_succ]
           refine AnyT.ready (rs := [14]) (by kernel_rfl) (by simp) (AllT.step rfl (fun K hK => ?b19614) AllT.nil)
           case b19614 =>
            (have hs0 : w9.cell? ⟨gp, 0, none⟩ = some (.slice AN xs.length cN) := (blk_cell HPB.out 0).trans rfl; have hf0 := blk_frozen HPB.out 0; go_simp)
            refine hK.out _ _ ?_ ?_
            ·exact past (by kernel_rfl)
            clear hK K
            try simp only [Act.put, List.setIfInBounds_toArray, List.set_cons_zero, List.set_cons_succ]
            refine AnyT.ready (rs := [15]) (by kernel_rfl) (by simp) (AllT.step rfl (fun K hK => ?b19815) AllT.nil)
            case b19815 =>
             go_simp
             refine hK.out _ _ ?_ ?_
             ·exact past (by kernel_rfl)
             clear hK K
             try simp only [Act.put, List.setIfInBounds_toArray, List.set_cons_zero, List.set_cons_succ]
             refine AnyT.ready (rs := [16]) (by kernel_rfl) (by simp) (AllT.step rfl (fun K hK => ?b20016) AllT.nil)
             case b20016 =>
              (have hs1 : (w9.setCell ⟨gp, 0, none⟩ (.slice A50 (xs.length + 1) c50)).cell? ⟨gp, 1, none⟩ = some (.slice AT ts.length cT) := (blk_cell (blk_set HPB.out 0 (.slice A50 (xs.length + 1) c50)) 1).trans rfl; have hf1 := blk_frozen (blk_set HPB.out 0 (.slice A50 (xs.length + 1) c50)) 1; go_simp)
              refine hK.out _ _ ?_ ?_
              ·exact past (by kernel_rfl)
              clear hK K
              try simp only [Act.put, List.setIfInBounds_toArray, List.set_cons_zero, List.set_cons_succ]
              refine AnyT.done (by kernel_rfl) ?_ _
              refine NoPanic.normal ?_
              (have HE := Aside0.mk (PE.of HL.out HB.out FN.out FT.out HPB.out HG.out); have hm := Aside0.mk (round_less hx.out HLT.out); clear FN FT HPB HB H7 HL HG; go_wp2; rw [HW.out]; exact ⟨⟨i + 1, x + 1, xs ++ [0], ts ++ [t0, t1], _, _, rfl, HI, ⟨HLT.out⟩, ⟨HXS.out.symm⟩, ⟨HTS.out.symm⟩, HE⟩, hm.out⟩)
        case b18911 =>
         (refine Kd.R_lit_step Kd.string (w0 := w) w.heap.size 9 (by rfl) (N := 57) (by rfl) (xs := [t0, t1]) (inner := [.string t0, .string t1]) (ok := fun _ => True) (okp := fun _ => True) ?hr (reps_texts _ _ _ [t0, t1]) (fun _ h => h) trivial HB.out HB.out.size (by simp) ?_; (case hr => first | (go_simp; done) | (go_simp; rfl)); intro vx w9 ho hb hg hat; (try replace FA := Aside0.mk (Kd.R_grown FA.out hg (fun _ _ => by simp))); (try replace FL := Aside0.mk (Kd.R_grown FL.out hg (fun _ _ => by simp))); replace FN := Aside0.mk (Kd.R_grown FN.out hg (fun _ _ => by simp)); replace FT := Aside0.mk (Kd.R_grown FT.out hg (fun _ _ => by simp)); replace HPB := Aside0.mk (blk_grown HPB.out hg (by simp)); replace H7 := Aside0.mk (blk_grown H7.out hg (by simp)); replace HL := Aside0.mk (blk_grown HL.out hg (by simp)); replace HB := Aside0.mk hb; obtain ⟨A57, c57, e9⟩ := Kd.R_slice ho; subst e9; have FL := Aside0.mk ho; clear ho hb hg hat)
         refine hK.out _ _ ?_ ?_
         ·intro _; exact ⟨HPB.out, H7.out⟩
         clear hK K
         try simp only [Act.put, List.setIfInBounds_toArray, List.set_cons_zero, List.set_cons_succ]
         refine AnyT.ready (rs := [4]) (by kernel_rfl) (by simp) (AllT.step rfl (fun K hK => ?b20404) AllT.nil)
         case b20404 =>
          (refine Kd.R_append_rows_step (Kd.int .i64) (w0 := w) w.heap.size (by rfl) (.tmp 47) (.tmp 49) 45 3 (.int .i64 0) 8 (by rfl) Try.underlying45 info3 rfl (by decide) (by omega) (.slice AN xs.length cN) xs [0] _ _ _ (fun _ => True) (fun _ => False) (by rfl) (by rfl) FN.out (Kd.R_reads' FA.out).2.2 (fun _ _ h => h) (fun _ h => h.elim) (fun _ _ => trivial) HB.out HB.out.size (by have h1 := HXL.out; have h2 := HTL.out; simp only [List.length_cons, List.length_nil]; omega) ?_; intro vx w9 ho hb hg hat; (try replace FT := Aside0.mk (Kd.R_over FT.out FN.out (by decide) hg)); (try replace FL := Aside0.mk (Kd.R_over FL.out FN.out (by decide) hg)); replace HPB := Aside0.mk (blk_grown HPB.out hg (Kd.R_ne FN.out HPB.out (by decide))); replace H7 := Aside0.mk (blk_grown H7.out hg (Kd.R_ne FN.out H7.out (by decide))); replace HL := Aside0.mk (blk_grown HL.out hg (Kd.R_ne FN.out HL.out (by decide))); replace HB := Aside0.mk hb; obtain ⟨A50, c50, e9⟩ := Kd.R_slice ho; simp only [List.length_append, List.length_cons, List.length_nil, Nat.zero_add, Nat.reduceAdd] at e9; subst e9; replace FN := Aside0.mk ho; clear ho hb hg hat FA)
          refine hK.out _ _ ?_ ?_
          ·intro _; exact ⟨HPB.out, H7.out⟩
          clear hK K
          try simp only [Act.put, List.setIfInBounds_toArray, List.set_cons_zero, List.set_cons_succ]
          refine AnyT.taken (i := 13) (v := ?v206) rfl (by kernel_rfl) (by kernel_rfl) (by kernel_rfl) (by kernel_rfl) (fun _ _ _ h => h) (Or.inl ⟨by rfl, ?y206⟩) ?s206 ?_
          case y206 =>
           intro wSW hSW
           (have y0 : wSW.cell? ⟨gp, 0, none⟩ = some (.slice AN xs.length cN) := (blk_cell hSW.1 0).trans rfl; have y1 : wSW.cell? ⟨gp, 1, none⟩ = some (.slice AT ts.length cT) := (blk_cell hSW.1 1).trans rfl; have y2 : wSW.cell? ⟨g7, 0, none⟩ = some (.string t0) := (blk_cell hSW.2 0).trans rfl; have y3 : wSW.cell? ⟨g7, 1, none⟩ = some (.string t1) := (blk_cell hSW.2 1).trans rfl; go_simp)
           all_goals with_reducible rfl
          case s206 => exact ⟨HPB.out, H7.out⟩
          try simp only [Act.put, List.setIfInBounds_toArray, List.set_cons_zero, List.set_cons_succ]
          refine AnyT.ready (rs := [12]) (by kernel_rfl) (by simp) (AllT.step rfl (fun K hK => ?b20712) AllT.nil)
          case b20712 =>
           (refine Kd.R_append_rows_step Kd.string (w0 := w) w.heap.size (by rfl) (.tmp 52) (.tmp 57) 22 9 (.string ⟨#[]⟩) 16 (by rfl) Try.underlying22 info9 rfl (by decide) (by omega) (.slice AT ts.length cT) ts [t0, t1] _ _ _ (fun _ => True) (fun _ => False) (by rfl) (by rfl) FT.out (Kd.R_reads' FL.out).2.2 (fun _ _ h => h) (fun _ h => h.elim) (fun _ _ => trivial) HB.out HB.out.size (by have h1 := HXL.out; have h2 := HTL.out; simp only [List.length_cons, List.length_nil]; omega) ?_; intro vx w9 ho hb hg hat; (try replace FN := Aside0.mk (Kd.R_over FN.out FT.out (by decide) hg)); replace HPB := Aside0.mk (blk_grown HPB.out hg (Kd.R_ne FT.out HPB.out (by decide))); replace H7 := Aside0.mk (blk_grown H7.out hg (Kd.R_ne FT.out H7.out (by decide))); replace HL := Aside0.mk (blk_grown HL.out hg (Kd.R_ne FT.out HL.out (by decide))); replace HB := Aside0.mk hb; obtain ⟨A58, c58, e9⟩ := Kd.R_slice ho; simp only [List.length_append, List.length_cons, List.length_nil, Nat.zero_add, Nat.reduceAdd] at e9; subst e9; replace FT := Aside0.mk ho; clear ho hb hg hat FL)
           refine hK.out _ _ ?_ ?_
           ·intro _; exact ⟨HPB.out, H7.out⟩
           clear hK K
           try simp only [Act.put, List.setIfInBounds_toArray, List.set_cons_zero, List.set_cons_succ]
           refine AnyT.ready (rs := [14]) (by kernel_rfl) (by simp) (AllT.step rfl (fun K hK => ?b20914) AllT.nil)
           case b20914 =>
            (have hs0 : w9.cell? ⟨gp, 0, none⟩ = some (.slice AN xs.length cN) := (blk_cell HPB.out 0).trans rfl; have hf0 := blk_frozen HPB.out 0; go_simp)
            refine hK.out _ _ ?_ ?_
            ·exact past (by kernel_rfl)
            clear hK K
            try simp only [Act.put, List.setIfInBounds_toArray, List.set_cons_zero, List.set_cons_succ]
            refine AnyT.ready (rs := [15]) (by kernel_rfl) (by simp) (AllT.step rfl (fun K hK => ?b21115) AllT.nil)
            case b21115 =>
             go_simp
             refine hK.out _ _ ?_ ?_
             ·exact past (by kernel_rfl)
             clear hK K
             try simp only [Act.put, List.setIfInBounds_toArray, List.set_cons_zero, List.set_cons_succ]
             refine AnyT.ready (rs := [16]) (by kernel_rfl) (by simp) (AllT.step rfl (fun K hK => ?b21316) AllT.nil)
             case b21316 =>
              (have hs1 : (w9.setCell ⟨gp, 0, none⟩ (.slice A50 (xs.length + 1) c50)).cell? ⟨gp, 1, none⟩ = some (.slice AT ts.length cT) := (blk_cell (blk_set HPB.out 0 (.slice A50 (xs.length + 1) c50)) 1).trans rfl; have hf1 := blk_frozen (blk_set HPB.out 0 (.slice A50 (xs.length + 1) c50)) 1; go_simp)
              refine hK.out _ _ ?_ ?_
              ·exact past (by kernel_rfl)
              clear hK K
              try simp only [Act.put, List.setIfInBounds_toArray, List.set_cons_zero, List.set_cons_succ]
              refine AnyT.done (by kernel_rfl) ?_ _
              refine NoPanic.normal ?_
              (have HE := Aside0.mk (PE.of HL.out HB.out FN.out FT.out HPB.out HG.out); have hm := Aside0.mk (round_less hx.out HLT.out); clear FN FT HPB HB H7 HL HG; go_wp2; rw [HW.out]; exact ⟨⟨i + 1, x + 1, xs ++ [0], ts ++ [t0, t1], _, _, rfl, HI, ⟨HLT.out⟩, ⟨HXS.out.symm⟩, ⟨HTS.out.symm⟩, HE⟩, hm.out⟩)
       case b18711 =>
        (refine Kd.R_lit_step Kd.string (w0 := w) w.heap.size 9 (by rfl) (N := 57) (by rfl) (xs := [t0, t1]) (inner := [.string t0, .string t1]) (ok := fun _ => True) (okp := fun _ => True) ?hr (reps_texts _ _ _ [t0, t1]) (fun _ h => h) trivial HB.out HB.out.size (by simp) ?_; (case hr => first | (go_simp; done) | (go_simp; rfl)); intro vx w9 ho hb hg hat; (try replace FA := Aside0.mk (Kd.R_grown FA.out hg (fun _ _ => by simp))); (try replace FL := Aside0.mk (Kd.R_grown FL.out hg (fun _ _ => by simp))); replace FN := Aside0.mk (Kd.R_grown FN.out hg (fun _ _ => by simp)); replace FT := Aside0.mk (Kd.R_grown FT.out hg (fun _ _ => by simp)); replace HPB := Aside0.mk (blk_grown HPB.out hg (by simp)); replace H7 := Aside0.mk (blk_grown H7.out hg (by simp)); replace HL := Aside0.mk (blk_grown HL.out hg (by simp)); replace HB := Aside0.mk hb; obtain ⟨A57, c57, e9⟩ := Kd.R_slice ho; subst e9; have FL := Aside0.mk ho; clear ho hb hg hat)
        refine hK.out _ _ ?_ ?_
        ·intro _; exact ⟨HPB.out, H7.out⟩
        clear hK K
        try simp only [Act.put, List.setIfInBounds_toArray, List.set_cons_zero, List.set_cons_succ]
        refine AnyT.ready (rs := [3]) (by kernel_rfl) (by simp) (AllT.step rfl (fun K hK => ?b21703) AllT.nil)
        case b21703 =>
         (refine Kd.R_lit_step (Kd.int .i64) (w0 := w) w.heap.size 3 (by rfl) (N := 49) (by rfl) (xs := [0]) (inner := [.int .i64 0]) (ok := fun _ => True) (okp := fun _ => True) ?hr (reps_ints _ _ _ [0]) (fun _ h => h) trivial HB.out HB.out.size (by simp) ?_; (case hr => first | (go_simp; done) | (go_simp; rfl)); intro vx w9 ho hb hg hat; (try replace FA := Aside0.mk (Kd.R_grown FA.out hg (fun _ _ => by simp))); (try replace FL := Aside0.mk (Kd.R_grown FL.out hg (fun _ _ => by simp))); replace FN := Aside0.mk (Kd.R_grown FN.out hg (fun _ _ => by simp)); replace FT := Aside0.mk (Kd.R_grown FT.out hg (fun _ _ => by simp)); replace HPB := Aside0.mk (blk_grown HPB.out hg (by simp)); replace H7 := Aside0.mk (blk_grown H7.out hg (by simp)); replace HL := Aside0.mk (blk_grown HL.out hg (by simp)); replace HB := Aside0.mk hb; obtain ⟨A49, c49, e9⟩ := Kd.R_slice ho; subst e9; have FA := Aside0.mk ho; clear ho hb hg hat)
         refine hK.out _ _ ?_ ?_
         ·intro _; exact ⟨HPB.out, H7.out⟩
         clear hK K
         try simp only [Act.put, List.setIfInBounds_toArray, List.set_cons_zero, List.set_cons_succ]
         refine AnyT.ready (rs := [4]) (by kernel_rfl) (by simp) (AllT.step rfl (fun K hK => ?b21904) AllT.nil)
         case b21904 =>
          (refine Kd.R_append_rows_step (Kd.int .i64) (w0 := w) w.heap.size (by rfl) (.tmp 47) (.tmp 49) 45 3 (.int .i64 0) 8 (by rfl) Try.underlying45 info3 rfl (by decide) (by omega) (.slice AN xs.length cN) xs [0] _ _ _ (fun _ => True) (fun _ => False) (by rfl) (by rfl) FN.out (Kd.R_reads' FA.out).2.2 (fun _ _ h => h) (fun _ h => h.elim) (fun _ _ => trivial) HB.out HB.out.size (by have h1 := HXL.out; have h2 := HTL.out; simp only [List.length_cons, List.length_nil]; omega) ?_; intro vx w9 ho hb hg hat; (try replace FT := Aside0.mk (Kd.R_over FT.out FN.out (by decide) hg)); (try replace FL := Aside0.mk (Kd.R_over FL.out FN.out (by decide) hg)); replace HPB := Aside0.mk (blk_grown HPB.out hg (Kd.R_ne FN.out HPB.out (by decide))); replace H7 := Aside0.mk (blk_grown H7.out hg (Kd.R_ne FN.out H7.out (by decide))); replace HL := Aside0.mk (blk_grown HL.out hg (Kd.R_ne FN.out HL.out (by decide))); replace HB := Aside0.mk hb; obtain ⟨A50, c50, e9⟩ := Kd.R_slice ho; simp only [List.length_append, List.length_cons, List.length_nil, Nat.zero_add, Nat.reduceAdd] at e9; subst e9; replace FN := Aside0.mk ho; clear ho hb hg hat FA)
          refine hK.out _ _ ?_ ?_
          ·intro _; exact ⟨HPB.out, H7.out⟩
          clear hK K
          try simp only [Act.put, List.setIfInBounds_toArray, List.set_cons_zero, List.set_cons_succ]
          refine AnyT.taken (i := 13) (v := ?v221) rfl (by kernel_rfl) (by kernel_rfl) (by kernel_rfl) (by kernel_rfl) (fun _ _ _ h => h) (Or.inl ⟨by rfl, ?y221⟩) ?s221 ?_
          case y221 =>
           intro wSW hSW
           (have y0 : wSW.cell? ⟨gp, 0, none⟩ = some (.slice AN xs.length cN) := (blk_cell hSW.1 0).trans rfl; have y1 : wSW.cell? ⟨gp, 1, none⟩ = some (.slice AT ts.length cT) := (blk_cell hSW.1 1).trans rfl; have y2 : wSW.cell? ⟨g7, 0, none⟩ = some (.string t0) := (blk_cell hSW.2 0).trans rfl; have y3 : wSW.cell? ⟨g7, 1, none⟩ = some (.string t1) := (blk_cell hSW.2 1).trans rfl; go_simp)
           all_goals with_reducible rfl
          case s221 => exact ⟨HPB.out, H7.out⟩
          try simp only [Act.put, List.setIfInBounds_toArray, List.set_cons_zero, List.set_cons_succ]
          refine AnyT.ready (rs := [12]) (by kernel_rfl) (by simp) (AllT.step rfl (fun K hK => ?b22212) AllT.nil)
          case b22212 =>
           (refine Kd.R_append_rows_step Kd.string (w0 := w) w.heap.size (by rfl) (.tmp 52) (.tmp 57) 22 9 (.string ⟨#[]⟩) 16 (by rfl) Try.underlying22 info9 rfl (by decide) (by omega) (.slice AT ts.length cT) ts [t0, t1] _ _ _ (fun _ => True) (fun _ => False) (by rfl) (by rfl) FT.out (Kd.R_reads' FL.out).2.2 (fun _ _ h => h) (fun _ h => h.elim) (fun _ _ => trivial) HB.out HB.out.size (by have h1 := HXL.out; have h2 := HTL.out; simp only [List.length_cons, List.length_nil]; omega) ?_; intro vx w9 ho hb hg hat; (try replace FN := Aside0.mk (Kd.R_over FN.out FT.out (by decide) hg)); replace HPB := Aside0.mk (blk_grown HPB.out hg (Kd.R_ne FT.out HPB.out (by decide))); replace H7 := Aside0.mk (blk_grown H7.out hg (Kd.R_ne FT.out H7.out (by decide))); replace HL := Aside0.mk (blk_grown HL.out hg (Kd.R_ne FT.out HL.out (by decide))); replace HB := Aside0.mk hb; obtain ⟨A58, c58, e9⟩ := Kd.R_slice ho; simp only [List.length_append, List.length_cons, List.length_nil, Nat.zero_add, Nat.reduceAdd] at e9; subst e9; replace FT := Aside0.mk ho; clear ho hb hg hat FL)
           refine hK.out _ _ ?_ ?_
           ·intro _; exact ⟨HPB.out, H7.out⟩
           clear hK K
           try simp only [Act.put, List.setIfInBounds_toArray, List.set_cons_zero, List.set_cons_succ]
           refine AnyT.ready (rs := [14]) (by kernel_rfl) (by simp) (AllT.step rfl (fun K hK => ?b22414) AllT.nil)
           case b22414 =>
            (have hs0 : w9.cell? ⟨gp, 0, none⟩ = some (.slice AN xs.length cN) := (blk_cell HPB.out 0).trans rfl; have hf0 := blk_frozen HPB.out 0; go_simp)
            refine hK.out _ _ ?_ ?_
            ·exact past (by kernel_rfl)
            clear hK K
            try simp only [Act.put, List.setIfInBounds_toArray, List.set_cons_zero, List.set_cons_succ]
            refine AnyT.ready (rs := [15]) (by kernel_rfl) (by simp) (AllT.step rfl (fun K hK => ?b22615) AllT.nil)
            case b22615 =>
             go_simp
             refine hK.out _ _ ?_ ?_
             ·exact past (by kernel_rfl)
             clear hK K
             try simp only [Act.put, List.setIfInBounds_toArray, List.set_cons_zero, List.set_cons_succ]
             refine AnyT.ready (rs := [16]) (by kernel_rfl) (by simp) (AllT.step rfl (fun K hK => ?b22816) AllT.nil)
             case b22816 =>
              (have hs1 : (w9.setCell ⟨gp, 0, none⟩ (.slice A50 (xs.length + 1) c50)).cell? ⟨gp, 1, none⟩ = some (.slice AT ts.length cT) := (blk_cell (blk_set HPB.out 0 (.slice A50 (xs.length + 1) c50)) 1).trans rfl; have hf1 := blk_frozen (blk_set HPB.out 0 (.slice A50 (xs.length + 1) c50)) 1; go_simp)
              refine hK.out _ _ ?_ ?_
              ·exact past (by kernel_rfl)
              clear hK K
              try simp only [Act.put, List.setIfInBounds_toArray, List.set_cons_zero, List.set_cons_succ]
              refine AnyT.done (by kernel_rfl) ?_ _
              refine NoPanic.normal ?_
              (have HE := Aside0.mk (PE.of HL.out HB.out FN.out FT.out HPB.out HG.out); have hm := Aside0.mk (round_less hx.out HLT.out); clear FN FT HPB HB H7 HL HG; go_wp2; rw [HW.out]; exact ⟨⟨i + 1, x + 1, xs ++ [0], ts ++ [t0, t1], _, _, rfl, HI, ⟨HLT.out⟩, ⟨HXS.out.symm⟩, ⟨HTS.out.symm⟩, HE⟩, hm.out⟩)
     ·have c1 : decide (x < (l0_8.length : Int)) = false := decide_eq_false (by omega)
      obtain rfl : i = l0_8.length := by omega
      have HC : Aside0 (pack_Encode.f k xs ts = some (r1, r2)) := ⟨by rw [hxs.out, hts.out, List.take_length]; exact HPK.out⟩
      clear HPK hxs hts hx hi hxi hile hlt
      obtain ⟨AN, cN, eN⟩ := Kd.R_slice HP.out.ns
      subst eN
      obtain ⟨AT, cT, eT⟩ := Kd.R_slice HP.out.ts
      subst eT
      have hp0 : wr.cell? ⟨gp, 0, none⟩ = some (.slice AN xs.length cN) := (blk_cell HP.out.bp 0).trans rfl
      have hp1 : wr.cell? ⟨gp, 1, none⟩ = some (.slice AT ts.length cT) := (blk_cell HP.out.bp 1).trans rfl
      go_wp2_with (go_at_call 26; refine (pack_Encode.calls k _ _ xs _ _ ts r1 r2 _ (Kd.R_reads' HP.out.ns).2.2 (Kd.R_reads' HP.out.ns).2.1 (Kd.R_reads' HP.out.ts).2.2 (Kd.R_reads' HP.out.ts).2.1 HC.out).mono ?_; rintro e w9 ⟨rfl, hb⟩; have HB9 := Aside0.mk (below_step HP.out.bel hb); clear hb)
      go_ret2
      exact ⟨rfl, HB9.out⟩
  ·rw [if_neg hl] at H
   cases H
 ·rw [if_neg c3] at H
  have c3b0 : (t == 0) = false := beq_eq_false_iff_ne.mpr c3
  have c3b1 : (t != 0) = true := bne_iff_ne.mpr c3
  simp only [Option.some.injEq, Prod.mk.injEq] at H
  obtain ⟨rfl, rfl⟩ := H
  go_enter Try.func10, Try.ntmps10
  go_wp2_with (first | ((with_reducible refine gate_dst (N := 1) rfl ?_); refine box_event ?hg (N := 1) ?hd (cs := #[.int .i64 a0_0, .int .i64 a0_1, .int .i64 a0_2, .int .i64 a0_3, .int .i64 a0_4, .int .i64 a0_5, .string a0_6, .slice A0_7 l0_7.length c0_7, .slice A0_8 l0_8.length c0_8]) (t := 25) ?hr ?_; (case hd => rfl); (case hg => rfl); (case hr => first | (go_simp; done) | (go_simp; rfl)); intro gl hgl w1 hbox hb; have HB := Aside0.mk hb; have BL := Aside0.mk hbox; clear hgl hb hbox; have hcz_0 : w1.cell? ⟨gl, 0, none⟩ = some (.int .i64 a0_0) := (blk_cell BL.out 0).trans rfl; have hcz_1 : w1.cell? ⟨gl, 1, none⟩ = some (.int .i64 a0_1) := (blk_cell BL.out 1).trans rfl; have hcz_2 : w1.cell? ⟨gl, 2, none⟩ = some (.int .i64 a0_2) := (blk_cell BL.out 2).trans rfl; have hcz_3 : w1.cell? ⟨gl, 3, none⟩ = some (.int .i64 a0_3) := (blk_cell BL.out 3).trans rfl; have hcz_4 : w1.cell? ⟨gl, 4, none⟩ = some (.int .i64 a0_4) := (blk_cell BL.out 4).trans rfl; have hcz_5 : w1.cell? ⟨gl, 5, none⟩ = some (.int .i64 a0_5) := (blk_cell BL.out 5).trans rfl; have hcz_6 : w1.cell? ⟨gl, 6, none⟩ = some (.string a0_6) := (blk_cell BL.out 6).trans rfl; have hcz_7 : w1.cell? ⟨gl, 7, none⟩ = some (.slice A0_7 l0_7.length c0_7) := (blk_cell BL.out 7).trans rfl; have hcz_8 : w1.cell? ⟨gl, 8, none⟩ = some (.slice A0_8 l0_8.length c0_8) := (blk_cell BL.out 8).trans rfl) | (go_at_call 13; refine (letter_Check.calls a0_0 a0_1 a0_2 a0_3 a0_4 a0_5 a0_6 _ _ l0_7 _ _ l0_8 _ _ (Kd.C_below HR7.out HB.out) HC7.out (Kd.C_below HR8.out HB.out) HC8.out A2.out).mono ?_; rintro e w2 ⟨rfl, hb⟩; have HB2 := Aside0.mk (below_step HB.out hb); have BL2 := Aside0.mk (blk_below BL.out hb); clear hb))
  go_ret2
  exact ⟨rfl, HB2.out⟩
end Go.Proofs.Ytelgpkbnahgdoaa.Al

/- One function of the program comes to what its plain twin says. This text began as the kit's own print (print.py, made by cprint.sh) and was turned by split.py: it is no printed file. -/
namespace Go.Proofs.Ytelgpkbnahgdoaa.Al
open Go.RowKit Go.Proofs.YtelgpkbnahgdoaaW.PrintWords Go.Proofs.YtelgpkbnahgdoaaW.PrintLast Go.Proofs.YtelgpkbnahgdoaaW.PrintMore
attribute [local go_sem] max2_int min2_int max_two min_two max_three min_three max_four min_four   -- for this text's walks alone
set_option linter.unusedVariables false
set_option linter.unusedSimpArgs false

attribute [local go_sem high] eqA49
/-! ### corncribbook_SameTexts: function 34 -/
def corncribbook_SameTexts.l0 : Nat → List ByteArray → List ByteArray → Int → Option (Bool)
 |0, _, _, _ => none
 |k + 1, x0, x1, x5 => if x5 < (x0.length : Int) then (if 0 ≤ x5 then (if x5 < (x1.length : Int) then (if (rdOf ByteArray.empty x0 x5).toList = (rdOf ByteArray.empty x1 x5).toList then (corncribbook_SameTexts.l0 k x0 x1 (wrap64 (x5 + 1))) else (some false)) else (none)) else (none)) else (some true)
def corncribbook_SameTexts.f (k : Nat) (l0 : List ByteArray) (l1 : List ByteArray) : Option (Bool) := if (l0.length : Int) = (l1.length : Int) then (corncribbook_SameTexts.l0 k l0 l1 0) else (some false)
theorem corncribbook_SameTexts.mono_l : ∀ k, (∀ y0 y1 y2, LeO (corncribbook_SameTexts.l0 k y0 y1 y2) (corncribbook_SameTexts.l0 (k + 1) y0 y1 y2))
 |0 => fun _ _ _ r h => by simp [corncribbook_SameTexts.l0] at h
 |k + 1 => by
  have ih0 := corncribbook_SameTexts.mono_l k
  ·intro y0 y1 y2
   unfold corncribbook_SameTexts.l0
   repeat' first
   |(with_reducible exact ih0 _ _ _)
   |(with_reducible exact LeO.refl _)
   |(with_reducible exact LeO.none _)
   |(with_reducible refine LeO.ite ?_ ?_)
   |(with_reducible refine LeO.bind ?_ (fun _ => ?_))
   |exact ih0 _ _ _
   |exact LeO.none _
   |refine LeO.ite ?_ ?_
   |refine LeO.bind ?_ (fun _ => ?_)
theorem corncribbook_SameTexts.mono : ∀ a0 a1 k, LeO (corncribbook_SameTexts.f k a0 a1) (corncribbook_SameTexts.f (k + 1) a0 a1) := by
 intro a0 a1 k
 have ih0 := corncribbook_SameTexts.mono_l k
 unfold corncribbook_SameTexts.f
 repeat' first
   |(with_reducible exact ih0 _ _ _)
   |(with_reducible exact LeO.refl _)
   |(with_reducible exact LeO.none _)
   |(with_reducible refine LeO.ite ?_ ?_)
   |(with_reducible refine LeO.bind ?_ (fun _ => ?_))
   |exact ih0 _ _ _
   |exact LeO.none _
   |refine LeO.ite ?_ ?_
   |refine LeO.bind ?_ (fun _ => ?_)
set_option maxHeartbeats 8000000 in
set_option maxRecDepth 100000 in
theorem corncribbook_SameTexts.calls (k : Nat) (A0 : Option Addr) (c0 : Nat) (l0 : List ByteArray) (A1 : Option Addr) (c1 : Nat) (l1 : List ByteArray) (r : Bool) (w : World) (hr0 : Kd.C Kd.string w A0 l0.length l0) (hc0 : l0.length ≤ c0) (hr1 : Kd.C Kd.string w A1 l1.length l1) (hc1 : l1.length ≤ c1) (h : corncribbook_SameTexts.f k l0 l1 = some r) :
  Calls Try.prog 34 #[.slice A0 l0.length c0, .slice A1 l1.length c1] w fun e w' => e = .returned (.bool r) ∧ Drawn0 w w' := by
 have HR0 := Aside0.mk hr0
 have HC0 := Aside0.mk hc0
 clear hr0 hc0
 have HR1 := Aside0.mk hr1
 have HC1 := Aside0.mk hc1
 clear hr1 hc1
 have H : (if (l0.length : Int) = (l1.length : Int) then (corncribbook_SameTexts.l0 k l0 l1 0) else (some false)) = some r := h
 clear h
 by_cases c3 : (l0.length : Int) = (l1.length : Int)
 ·rw [if_pos c3] at H
  have c3b0 : ((l0.length : Int) == (l1.length : Int)) = true := beq_iff_eq.mpr c3
  have c3b1 : ((l0.length : Int) != (l1.length : Int)) = false := bne_eq_false_iff_eq.mpr c3
  have c3b2 : (l0.length == l1.length) = true := by first | simpa using c3 | (simp at c3 ⊢; omega)
  clear c3
  have H' := Aside0.mk H
  clear H
  go_enter Try.func34, Try.ntmps34
  go_wp2
  repeat (go_quiet (fail); try go_wp2)
  go_loopg [5] k (fun kq v5 w' => ∃ (x5_1 : Int), v5 = .int .i64 x5_1 ∧ Aside0 (corncribbook_SameTexts.l0 kq l0 l1 x5_1 = some r) ∧ Aside0 (kq ≤ k) ∧ Drawn0 w w')
  case atStart => exact ⟨(0), (by first | rfl | (simp; done) | (simp [*]; done) | (simp [bne_nil_]; done)), H', ⟨Nat.le_refl _⟩, by repeat (first | exact Drawn0.refl _ | apply Drawn0.step)⟩
  case round =>
   clear H'
   (try clear c1); (try clear p2); (try clear c3); (try clear c3b0); (try clear c3b1); (try clear c3b2)
   obtain ⟨x5_1, rfl, HA, HK1, ⟨m1, rfl⟩⟩ := hrel
   cases gk with
   |zero => exact absurd HA.out (by simp [corncribbook_SameTexts.l0])
   |succ k1 =>
    have H := HA.out
    clear HA
    simp only [corncribbook_SameTexts.l0] at H
    by_cases c4 : x5_1 < (l0.length : Int)
    ·rw [if_pos c4] at H
     have c4b0 : decide (x5_1 < (l0.length : Int)) = true := decide_eq_true c4
     clear c4
     by_cases c5 : 0 ≤ x5_1
     ·rw [if_pos c5] at H
      have c5b0 : decide (0 ≤ x5_1) = true := decide_eq_true c5
      clear c5
      by_cases c6 : x5_1 < (l1.length : Int)
      ·rw [if_pos c6] at H
       have c6b0 : decide (x5_1 < (l1.length : Int)) = true := decide_eq_true c6
       clear c6
       by_cases c7 : (rdOf ByteArray.empty l0 x5_1).toList = (rdOf ByteArray.empty l1 x5_1).toList
       ·rw [if_pos c7] at H
        have c7b0 : ((rdOf ByteArray.empty l0 x5_1).toList == (rdOf ByteArray.empty l1 x5_1).toList) = true := beq_iff_eq.mpr c7
        have c7b1 : ((rdOf ByteArray.empty l0 x5_1).toList != (rdOf ByteArray.empty l1 x5_1).toList) = false := bne_eq_false_iff_eq.mpr c7
        clear c7
        have H' := Aside0.mk H
        clear H
        have p230 : 0 ≤ (x5_1 : Int) := of_decide_eq_true (by first | (with_reducible assumption) | assumption)
        have q230 : x5_1 < (l0.length : Int) := of_decide_eq_true (by first | (with_reducible assumption) | assumption)
        obtain ⟨ad230, e230, hx230_0⟩ := Kd.at_string HR0.out x5_1 p230 q230
        cases e230
        replace p230 := eq_true p230
        replace q230 := eq_true q230
        have p231 : 0 ≤ (x5_1 : Int) := of_decide_eq_true (by first | (with_reducible assumption) | assumption)
        have q231 : x5_1 < (l1.length : Int) := of_decide_eq_true (by first | (with_reducible assumption) | assumption)
        obtain ⟨ad231, e231, hx231_0⟩ := Kd.at_string HR1.out x5_1 p231 q231
        cases e231
        replace p231 := eq_true p231
        replace q231 := eq_true q231
        go_wp2
        repeat (go_quiet (fail); try go_wp2)
        go_roundg k1
        case measure => have := HK1.out; omega
        case rel => exact ⟨(wrap64 (x5_1 + 1)), (by first | rfl | (simp; done) | (simp [*]; done) | (simp [bne_nil_]; done)), H', ⟨by have := HK1.out; omega⟩, by repeat (first | exact Drawn0.refl _ | apply Drawn0.step)⟩
       ·rw [if_neg c7] at H
        have c7b0 : ((rdOf ByteArray.empty l0 x5_1).toList == (rdOf ByteArray.empty l1 x5_1).toList) = false := beq_eq_false_iff_ne.mpr c7
        have c7b1 : ((rdOf ByteArray.empty l0 x5_1).toList != (rdOf ByteArray.empty l1 x5_1).toList) = true := bne_iff_ne.mpr c7
        obtain rfl := Option.some.inj H
        have p230 : 0 ≤ (x5_1 : Int) := of_decide_eq_true (by first | (with_reducible assumption) | assumption)
        have q230 : x5_1 < (l0.length : Int) := of_decide_eq_true (by first | (with_reducible assumption) | assumption)
        obtain ⟨ad230, e230, hx230_0⟩ := Kd.at_string HR0.out x5_1 p230 q230
        cases e230
        replace p230 := eq_true p230
        replace q230 := eq_true q230
        have p231 : 0 ≤ (x5_1 : Int) := of_decide_eq_true (by first | (with_reducible assumption) | assumption)
        have q231 : x5_1 < (l1.length : Int) := of_decide_eq_true (by first | (with_reducible assumption) | assumption)
        obtain ⟨ad231, e231, hx231_0⟩ := Kd.at_string HR1.out x5_1 p231 q231
        cases e231
        replace p231 := eq_true p231
        replace q231 := eq_true q231
        go_wp2
        repeat (go_quiet (fail); try go_wp2)
        go_ret
        exact ⟨by first | rfl | (simp; done) | (simp [*]; done) | (simp [bne_nil_]; done), by repeat (first | exact Drawn0.refl _ | apply Drawn0.step)⟩
      ·rw [if_neg c6] at H
       exact absurd H (by simp)
     ·rw [if_neg c5] at H
      exact absurd H (by simp)
    ·rw [if_neg c4] at H
     have c4b0 : decide (x5_1 < (l0.length : Int)) = false := decide_eq_false c4
     clear c4
     obtain rfl := Option.some.inj H
     go_wp2
     repeat (go_quiet (fail); try go_wp2)
     go_ret
     exact ⟨by first | rfl | (simp; done) | (simp [*]; done) | (simp [bne_nil_]; done), by repeat (first | exact Drawn0.refl _ | apply Drawn0.step)⟩
 ·rw [if_neg c3] at H
  have c3b0 : ((l0.length : Int) == (l1.length : Int)) = false := beq_eq_false_iff_ne.mpr c3
  have c3b1 : ((l0.length : Int) != (l1.length : Int)) = true := bne_iff_ne.mpr c3
  have c3b2 : (l0.length == l1.length) = false := by first | simpa using c3 | (simp at c3 ⊢; omega)
  obtain rfl := Option.some.inj H
  go_enter Try.func34, Try.ntmps34
  go_wp2
  repeat (go_quiet (fail); try go_wp2)
  go_ret
  exact ⟨by first | rfl | (simp; done) | (simp [*]; done) | (simp [bne_nil_]; done), by repeat (first | exact Drawn0.refl _ | apply Drawn0.step)⟩

end Go.Proofs.Ytelgpkbnahgdoaa.Al

/- One function of the program comes to what its plain twin says. This text began as the kit's own print (print.py, made by cprint.sh) and was turned by split.py: it is no printed file. -/
namespace Go.Proofs.Ytelgpkbnahgdoaa.Al
open Go.RowKit Go.Proofs.YtelgpkbnahgdoaaW.PrintWords Go.Proofs.YtelgpkbnahgdoaaW.PrintLast Go.Proofs.YtelgpkbnahgdoaaW.PrintMore
attribute [local go_sem] max2_int min2_int max_two min_two max_three min_three max_four min_four   -- for this text's walks alone
set_option linter.unusedVariables false
set_option linter.unusedSimpArgs false

attribute [local go_sem high] eqA49
/-! ### corncribbook_SameWrites: function 35 -/
def corncribbook_SameWrites.l0 : Nat → List (S49) → List (S49) → Int → Option (Bool)
 |0, _, _, _ => none
 |k + 1, x0, x1, x5 => if x5 < (x0.length : Int) then (if 0 ≤ x5 then (if x5 < (x1.length : Int) then (if (!((((rd_T49 x0 x5).f0).toList) == (((rd_T49 x1 x5).f0).toList)) || (!((((rd_T49 x0 x5).f1).toList) == (((rd_T49 x1 x5).f1).toList)) || (!(((rd_T49 x0 x5).f2) == ((rd_T49 x1 x5).f2))))) = true then (some false) else (corncribbook_SameWrites.l0 k x0 x1 (wrap64 (x5 + 1)))) else (none)) else (none)) else (some true)
def corncribbook_SameWrites.f (k : Nat) (l0 : List (S49)) (l1 : List (S49)) : Option (Bool) := if (l0.length : Int) = (l1.length : Int) then (corncribbook_SameWrites.l0 k l0 l1 0) else (some false)
theorem corncribbook_SameWrites.mono_l : ∀ k, (∀ y0 y1 y2, LeO (corncribbook_SameWrites.l0 k y0 y1 y2) (corncribbook_SameWrites.l0 (k + 1) y0 y1 y2))
 |0 => fun _ _ _ r h => by simp [corncribbook_SameWrites.l0] at h
 |k + 1 => by
  have ih0 := corncribbook_SameWrites.mono_l k
  ·intro y0 y1 y2
   unfold corncribbook_SameWrites.l0
   repeat' first
   |(with_reducible exact ih0 _ _ _)
   |(with_reducible exact LeO.refl _)
   |(with_reducible exact LeO.none _)
   |(with_reducible refine LeO.ite ?_ ?_)
   |(with_reducible refine LeO.bind ?_ (fun _ => ?_))
   |exact ih0 _ _ _
   |exact LeO.none _
   |refine LeO.ite ?_ ?_
   |refine LeO.bind ?_ (fun _ => ?_)
theorem corncribbook_SameWrites.mono : ∀ a0 a1 k, LeO (corncribbook_SameWrites.f k a0 a1) (corncribbook_SameWrites.f (k + 1) a0 a1) := by
 intro a0 a1 k
 have ih0 := corncribbook_SameWrites.mono_l k
 unfold corncribbook_SameWrites.f
 repeat' first
   |(with_reducible exact ih0 _ _ _)
   |(with_reducible exact LeO.refl _)
   |(with_reducible exact LeO.none _)
   |(with_reducible refine LeO.ite ?_ ?_)
   |(with_reducible refine LeO.bind ?_ (fun _ => ?_))
   |exact ih0 _ _ _
   |exact LeO.none _
   |refine LeO.ite ?_ ?_
   |refine LeO.bind ?_ (fun _ => ?_)
set_option maxHeartbeats 8000000 in
set_option maxRecDepth 100000 in
theorem corncribbook_SameWrites.calls (k : Nat) (A0 : Option Addr) (c0 : Nat) (l0 : List (S49)) (A1 : Option Addr) (c1 : Nat) (l1 : List (S49)) (r : Bool) (w : World) (hr0 : Kd.C k49 w A0 l0.length l0) (hc0 : l0.length ≤ c0) (hr1 : Kd.C k49 w A1 l1.length l1) (hc1 : l1.length ≤ c1) (h : corncribbook_SameWrites.f k l0 l1 = some r) :
  Calls Try.prog 35 #[.slice A0 l0.length c0, .slice A1 l1.length c1] w fun e w' => e = .returned (.bool r) ∧ Drawn0 w w' := by
 have hu49 := Try.underlying49
 have HR0 := Aside0.mk hr0
 have HC0 := Aside0.mk hc0
 clear hr0 hc0
 have HR1 := Aside0.mk hr1
 have HC1 := Aside0.mk hc1
 clear hr1 hc1
 have H : (if (l0.length : Int) = (l1.length : Int) then (corncribbook_SameWrites.l0 k l0 l1 0) else (some false)) = some r := h
 clear h
 by_cases c3 : (l0.length : Int) = (l1.length : Int)
 ·rw [if_pos c3] at H
  have c3b0 : ((l0.length : Int) == (l1.length : Int)) = true := beq_iff_eq.mpr c3
  have c3b1 : ((l0.length : Int) != (l1.length : Int)) = false := bne_eq_false_iff_eq.mpr c3
  have c3b2 : (l0.length == l1.length) = true := by first | simpa using c3 | (simp at c3 ⊢; omega)
  clear c3
  have H' := Aside0.mk H
  clear H
  go_enter Try.func35, Try.ntmps35
  go_wp2
  repeat (go_quiet (fail); try go_wp2)
  go_loopg [5] k (fun kq v5 w' => ∃ (x5_1 : Int), v5 = .int .i64 x5_1 ∧ Aside0 (corncribbook_SameWrites.l0 kq l0 l1 x5_1 = some r) ∧ Aside0 (kq ≤ k) ∧ Drawn0 w w')
  case atStart => exact ⟨(0), (by first | rfl | (simp; done) | (simp [*]; done) | (simp [bne_nil_]; done)), H', ⟨Nat.le_refl _⟩, by repeat (first | exact Drawn0.refl _ | apply Drawn0.step)⟩
  case round =>
   clear H'
   (try clear c1); (try clear p2); (try clear c3); (try clear c3b0); (try clear c3b1); (try clear c3b2)
   obtain ⟨x5_1, rfl, HA, HK1, ⟨m1, rfl⟩⟩ := hrel
   cases gk with
   |zero => exact absurd HA.out (by simp [corncribbook_SameWrites.l0])
   |succ k1 =>
    have H := HA.out
    clear HA
    simp only [corncribbook_SameWrites.l0] at H
    by_cases c4 : x5_1 < (l0.length : Int)
    ·rw [if_pos c4] at H
     have c4b0 : decide (x5_1 < (l0.length : Int)) = true := decide_eq_true c4
     clear c4
     by_cases c5 : 0 ≤ x5_1
     ·rw [if_pos c5] at H
      have c5b0 : decide (0 ≤ x5_1) = true := decide_eq_true c5
      clear c5
      by_cases c6 : x5_1 < (l1.length : Int)
      ·rw [if_pos c6] at H
       have c6b0 : decide (x5_1 < (l1.length : Int)) = true := decide_eq_true c6
       clear c6
       by_cases c7 : (!((((rd_T49 l0 x5_1).f0).toList) == (((rd_T49 l1 x5_1).f0).toList)) || (!((((rd_T49 l0 x5_1).f1).toList) == (((rd_T49 l1 x5_1).f1).toList)) || (!(((rd_T49 l0 x5_1).f2) == ((rd_T49 l1 x5_1).f2))))) = true
       ·rw [if_pos c7] at H
        have c7b0 : (!((((rd_T49 l0 x5_1).f0).toList) == (((rd_T49 l1 x5_1).f0).toList)) || (!((((rd_T49 l0 x5_1).f1).toList) == (((rd_T49 l1 x5_1).f1).toList)) || (!(((rd_T49 l0 x5_1).f2) == ((rd_T49 l1 x5_1).f2))))) = true := c7
        clear c7
        obtain rfl := Option.some.inj H
        have p232 : 0 ≤ (x5_1 : Int) := of_decide_eq_true (by first | (with_reducible assumption) | assumption)
        have q232 : x5_1 < (l0.length : Int) := of_decide_eq_true (by first | (with_reducible assumption) | assumption)
        obtain ⟨ad232, e232, hx232_0, hx232_1, hx232_2⟩ := at_T49 HR0.out x5_1 p232 q232
        cases e232
        replace p232 := eq_true p232
        replace q232 := eq_true q232
        have p233 : 0 ≤ (x5_1 : Int) := of_decide_eq_true (by first | (with_reducible assumption) | assumption)
        have q233 : x5_1 < (l1.length : Int) := of_decide_eq_true (by first | (with_reducible assumption) | assumption)
        obtain ⟨ad233, e233, hx233_0, hx233_1, hx233_2⟩ := at_T49 HR1.out x5_1 p233 q233
        cases e233
        replace p233 := eq_true p233
        replace q233 := eq_true q233
        go_wp2
        repeat (go_quiet (fail); try go_wp2)
        go_ret
        exact ⟨by first | rfl | (simp; done) | (simp [*]; done) | (simp [bne_nil_]; done), by repeat (first | exact Drawn0.refl _ | apply Drawn0.step)⟩
       ·rw [if_neg c7] at H
        have c7b0 : (!((((rd_T49 l0 x5_1).f0).toList) == (((rd_T49 l1 x5_1).f0).toList)) || (!((((rd_T49 l0 x5_1).f1).toList) == (((rd_T49 l1 x5_1).f1).toList)) || (!(((rd_T49 l0 x5_1).f2) == ((rd_T49 l1 x5_1).f2))))) = false := by simpa using c7
        clear c7
        have H' := Aside0.mk H
        clear H
        have p232 : 0 ≤ (x5_1 : Int) := of_decide_eq_true (by first | (with_reducible assumption) | assumption)
        have q232 : x5_1 < (l0.length : Int) := of_decide_eq_true (by first | (with_reducible assumption) | assumption)
        obtain ⟨ad232, e232, hx232_0, hx232_1, hx232_2⟩ := at_T49 HR0.out x5_1 p232 q232
        cases e232
        replace p232 := eq_true p232
        replace q232 := eq_true q232
        have p233 : 0 ≤ (x5_1 : Int) := of_decide_eq_true (by first | (with_reducible assumption) | assumption)
        have q233 : x5_1 < (l1.length : Int) := of_decide_eq_true (by first | (with_reducible assumption) | assumption)
        obtain ⟨ad233, e233, hx233_0, hx233_1, hx233_2⟩ := at_T49 HR1.out x5_1 p233 q233
        cases e233
        replace p233 := eq_true p233
        replace q233 := eq_true q233
        go_wp2
        repeat (go_quiet (fail); try go_wp2)
        go_roundg k1
        case measure => have := HK1.out; omega
        case rel => exact ⟨(wrap64 (x5_1 + 1)), (by first | rfl | (simp; done) | (simp [*]; done) | (simp [bne_nil_]; done)), H', ⟨by have := HK1.out; omega⟩, by repeat (first | exact Drawn0.refl _ | apply Drawn0.step)⟩
      ·rw [if_neg c6] at H
       exact absurd H (by simp)
     ·rw [if_neg c5] at H
      exact absurd H (by simp)
    ·rw [if_neg c4] at H
     have c4b0 : decide (x5_1 < (l0.length : Int)) = false := decide_eq_false c4
     clear c4
     obtain rfl := Option.some.inj H
     go_wp2
     repeat (go_quiet (fail); try go_wp2)
     go_ret
     exact ⟨by first | rfl | (simp; done) | (simp [*]; done) | (simp [bne_nil_]; done), by repeat (first | exact Drawn0.refl _ | apply Drawn0.step)⟩
 ·rw [if_neg c3] at H
  have c3b0 : ((l0.length : Int) == (l1.length : Int)) = false := beq_eq_false_iff_ne.mpr c3
  have c3b1 : ((l0.length : Int) != (l1.length : Int)) = true := bne_iff_ne.mpr c3
  have c3b2 : (l0.length == l1.length) = false := by first | simpa using c3 | (simp at c3 ⊢; omega)
  obtain rfl := Option.some.inj H
  go_enter Try.func35, Try.ntmps35
  go_wp2
  repeat (go_quiet (fail); try go_wp2)
  go_ret
  exact ⟨by first | rfl | (simp; done) | (simp [*]; done) | (simp [bne_nil_]; done), by repeat (first | exact Drawn0.refl _ | apply Drawn0.step)⟩

end Go.Proofs.Ytelgpkbnahgdoaa.Al

/- One function of the program comes to what its plain twin says. This text began as the kit's own print (print.py, made by cprint.sh) and was turned by split.py: it is no printed file. -/
namespace Go.Proofs.Ytelgpkbnahgdoaa.Al
open Go.RowKit Go.Proofs.YtelgpkbnahgdoaaW.PrintWords Go.Proofs.YtelgpkbnahgdoaaW.PrintLast Go.Proofs.YtelgpkbnahgdoaaW.PrintMore
attribute [local go_sem] max2_int min2_int max_two min_two max_three min_three max_four min_four   -- for this text's walks alone
set_option linter.unusedVariables false
set_option linter.unusedSimpArgs false

attribute [local go_sem high] eqA49
/-! ### corncribbook_SameLetter: function 15 -/
def corncribbook_SameLetter.f (k : Nat) (a0_0 : Int) (a0_1 : Int) (a0_2 : Int) (a0_3 : Int) (a0_4 : Int) (a0_5 : Int) (a0_6 : ByteArray) (l0_7 : List ByteArray) (l0_8 : List (S49)) (a1_0 : Int) (a1_1 : Int) (a1_2 : Int) (a1_3 : Int) (a1_4 : Int) (a1_5 : Int) (a1_6 : ByteArray) (l1_7 : List ByteArray) (l1_8 : List (S49)) : Option (Bool) := if a0_0 = a1_0 then (if a0_1 = a1_1 then (if a0_2 = a1_2 then (if a0_3 = a1_3 then (if a0_4 = a1_4 then (if a0_5 = a1_5 then (if a0_6.toList = a1_6.toList then ((corncribbook_SameTexts.f k l0_7 l1_7).bind fun t236 => (if t236 = true then ((corncribbook_SameWrites.f k l0_8 l1_8).bind fun t237 => (some t237)) else (some false))) else (some false)) else (some false)) else (some false)) else (some false)) else (some false)) else (some false)) else (some false)
theorem corncribbook_SameLetter.mono : ∀ a0 a1 a2 a3 a4 a5 a6 a7 a8 a9 a10 a11 a12 a13 a14 a15 a16 a17 k, LeO (corncribbook_SameLetter.f k a0 a1 a2 a3 a4 a5 a6 a7 a8 a9 a10 a11 a12 a13 a14 a15 a16 a17) (corncribbook_SameLetter.f (k + 1) a0 a1 a2 a3 a4 a5 a6 a7 a8 a9 a10 a11 a12 a13 a14 a15 a16 a17) := by
 intro a0 a1 a2 a3 a4 a5 a6 a7 a8 a9 a10 a11 a12 a13 a14 a15 a16 a17 k
 unfold corncribbook_SameLetter.f
 repeat' first
   |(with_reducible exact corncribbook_SameTexts.mono _ _ _)
   |(with_reducible exact corncribbook_SameWrites.mono _ _ _)
   |(with_reducible exact LeO.refl _)
   |(with_reducible exact LeO.none _)
   |(with_reducible refine LeO.ite ?_ ?_)
   |(with_reducible refine LeO.bind ?_ (fun _ => ?_))
   |exact corncribbook_SameTexts.mono _ _ _
   |exact corncribbook_SameWrites.mono _ _ _
   |exact LeO.none _
   |refine LeO.ite ?_ ?_
   |refine LeO.bind ?_ (fun _ => ?_)
set_option maxHeartbeats 8000000 in
set_option maxRecDepth 100000 in
theorem corncribbook_SameLetter.calls (k : Nat) (a0_0 : Int) (a0_1 : Int) (a0_2 : Int) (a0_3 : Int) (a0_4 : Int) (a0_5 : Int) (a0_6 : ByteArray) (A0_7 : Option Addr) (c0_7 : Nat) (l0_7 : List ByteArray) (A0_8 : Option Addr) (c0_8 : Nat) (l0_8 : List (S49)) (a1_0 : Int) (a1_1 : Int) (a1_2 : Int) (a1_3 : Int) (a1_4 : Int) (a1_5 : Int) (a1_6 : ByteArray) (A1_7 : Option Addr) (c1_7 : Nat) (l1_7 : List ByteArray) (A1_8 : Option Addr) (c1_8 : Nat) (l1_8 : List (S49)) (r : Bool) (w : World) (hr0_7 : Kd.C Kd.string w A0_7 l0_7.length l0_7) (hc0_7 : l0_7.length ≤ c0_7) (hr0_8 : Kd.C k49 w A0_8 l0_8.length l0_8) (hc0_8 : l0_8.length ≤ c0_8) (hr1_7 : Kd.C Kd.string w A1_7 l1_7.length l1_7) (hc1_7 : l1_7.length ≤ c1_7) (hr1_8 : Kd.C k49 w A1_8 l1_8.length l1_8) (hc1_8 : l1_8.length ≤ c1_8) (h : corncribbook_SameLetter.f k a0_0 a0_1 a0_2 a0_3 a0_4 a0_5 a0_6 l0_7 l0_8 a1_0 a1_1 a1_2 a1_3 a1_4 a1_5 a1_6 l1_7 l1_8 = some r) :
  Calls Try.prog 15 #[.agg #[.int .i64 a0_0, .int .i64 a0_1, .int .i64 a0_2, .int .i64 a0_3, .int .i64 a0_4, .int .i64 a0_5, .string a0_6, .slice A0_7 l0_7.length c0_7, .slice A0_8 l0_8.length c0_8], .agg #[.int .i64 a1_0, .int .i64 a1_1, .int .i64 a1_2, .int .i64 a1_3, .int .i64 a1_4, .int .i64 a1_5, .string a1_6, .slice A1_7 l1_7.length c1_7, .slice A1_8 l1_8.length c1_8]] w fun e w' => e = .returned (.bool r) ∧ Below w.heap.size w w' := by
 have hu25 := Try.underlying25
 have HR0_7 := Aside0.mk hr0_7
 have HC0_7 := Aside0.mk hc0_7
 clear hr0_7 hc0_7
 have HR0_8 := Aside0.mk hr0_8
 have HC0_8 := Aside0.mk hc0_8
 clear hr0_8 hc0_8
 have HR1_7 := Aside0.mk hr1_7
 have HC1_7 := Aside0.mk hc1_7
 clear hr1_7 hc1_7
 have HR1_8 := Aside0.mk hr1_8
 have HC1_8 := Aside0.mk hc1_8
 clear hr1_8 hc1_8
 have HB := Aside0.mk (Below.refl w.heap.size w)
 have H : (if a0_0 = a1_0 then (if a0_1 = a1_1 then (if a0_2 = a1_2 then (if a0_3 = a1_3 then (if a0_4 = a1_4 then (if a0_5 = a1_5 then (if a0_6.toList = a1_6.toList then ((corncribbook_SameTexts.f k l0_7 l1_7).bind fun t236 => (if t236 = true then ((corncribbook_SameWrites.f k l0_8 l1_8).bind fun t237 => (some t237)) else (some false))) else (some false)) else (some false)) else (some false)) else (some false)) else (some false)) else (some false)) else (some false)) = some r := h
 clear h
 by_cases c3 : a0_0 = a1_0
 ·rw [if_pos c3] at H
  have c3b0 : (a0_0 == a1_0) = true := beq_iff_eq.mpr c3
  have c3b1 : (a0_0 != a1_0) = false := bne_eq_false_iff_eq.mpr c3
  clear c3
  by_cases c4 : a0_1 = a1_1
  ·rw [if_pos c4] at H
   have c4b0 : (a0_1 == a1_1) = true := beq_iff_eq.mpr c4
   have c4b1 : (a0_1 != a1_1) = false := bne_eq_false_iff_eq.mpr c4
   clear c4
   by_cases c5 : a0_2 = a1_2
   ·rw [if_pos c5] at H
    have c5b0 : (a0_2 == a1_2) = true := beq_iff_eq.mpr c5
    have c5b1 : (a0_2 != a1_2) = false := bne_eq_false_iff_eq.mpr c5
    clear c5
    by_cases c6 : a0_3 = a1_3
    ·rw [if_pos c6] at H
     have c6b0 : (a0_3 == a1_3) = true := beq_iff_eq.mpr c6
     have c6b1 : (a0_3 != a1_3) = false := bne_eq_false_iff_eq.mpr c6
     clear c6
     by_cases c7 : a0_4 = a1_4
     ·rw [if_pos c7] at H
      have c7b0 : (a0_4 == a1_4) = true := beq_iff_eq.mpr c7
      have c7b1 : (a0_4 != a1_4) = false := bne_eq_false_iff_eq.mpr c7
      clear c7
      by_cases c8 : a0_5 = a1_5
      ·rw [if_pos c8] at H
       have c8b0 : (a0_5 == a1_5) = true := beq_iff_eq.mpr c8
       have c8b1 : (a0_5 != a1_5) = false := bne_eq_false_iff_eq.mpr c8
       clear c8
       by_cases c9 : a0_6.toList = a1_6.toList
       ·rw [if_pos c9] at H
        have c9b0 : (a0_6.toList == a1_6.toList) = true := beq_iff_eq.mpr c9
        have c9b1 : (a0_6.toList != a1_6.toList) = false := bne_eq_false_iff_eq.mpr c9
        clear c9
        replace H := Option.bind_eq_some_iff.mp H
        obtain ⟨t236, A100, H⟩ := H
        replace H : (if t236 = true then ((corncribbook_SameWrites.f k l0_8 l1_8).bind fun t237 => (some t237)) else (some false)) = some r := H
        have A10 := Aside0.mk A100
        clear A100
        by_cases c11 : t236 = true
        ·subst c11
         have H1 : ((corncribbook_SameWrites.f k l0_8 l1_8).bind fun t237 => (some t237)) = some r := by rw [if_pos rfl] at H; exact H
         clear H
         have H := H1
         clear H1
         replace H := Option.bind_eq_some_iff.mp H
         obtain ⟨t237, A120, H⟩ := H
         replace H : (some t237) = some r := H
         have A12 := Aside0.mk A120
         clear A120
         obtain rfl := Option.some.inj H
         go_enter Try.func15, Try.ntmps15
         go_wp2_with (first | ((with_reducible refine gate_dst (N := 2) rfl ?_); refine box_event ?hg (N := 2) ?hd (cs := #[.int .i64 a0_0, .int .i64 a0_1, .int .i64 a0_2, .int .i64 a0_3, .int .i64 a0_4, .int .i64 a0_5, .string a0_6, .slice A0_7 l0_7.length c0_7, .slice A0_8 l0_8.length c0_8]) (t := 25) ?hr ?_; (case hd => rfl); (case hg => rfl); (case hr => first | (go_simp; done) | (go_simp; rfl)); intro gb234 hg w13 hbox hb; have n0_ := Aside0.mk (below_step (by repeat (first | (with_reducible first | exact HB.out | apply below_alloc | apply pw_below_drewN | apply below_drew1) | exact HB.out)) hb); have n1_ := Aside0.mk (hbox); have n2_ := Aside0.mk ((by rw [hg]; exact (below_size (by repeat (first | (with_reducible first | exact HB.out | apply below_alloc | apply pw_below_drewN | apply below_drew1) | exact HB.out))) : w.heap.size ≤ gb234)); have n3_ := Aside0.mk ((by rw [hg]; exact (below_size (by repeat (first | (with_reducible first | exact HB.out | apply below_alloc | apply pw_below_drewN | apply below_drew1) | exact HB.out))) : w.heap.size ≤ gb234)); clear HB; have HB := n0_; have BK234 := n1_; have GW234 := n2_; have GE234 := n3_; clear n0_ n1_ n2_ n3_; clear hb hbox hg) | ((with_reducible refine gate_dst (N := 3) rfl ?_); refine box_event ?hg (N := 3) ?hd (cs := #[.int .i64 a1_0, .int .i64 a1_1, .int .i64 a1_2, .int .i64 a1_3, .int .i64 a1_4, .int .i64 a1_5, .string a1_6, .slice A1_7 l1_7.length c1_7, .slice A1_8 l1_8.length c1_8]) (t := 25) ?hr ?_; (case hd => rfl); (case hg => rfl); (case hr => first | (go_simp; done) | (go_simp; rfl)); intro gb235 hg w14 hbox hb; have n0_ := Aside0.mk (blk_below (g := gb234) (o := .cells #[.int .i64 a0_0, .int .i64 a0_1, .int .i64 a0_2, .int .i64 a0_3, .int .i64 a0_4, .int .i64 a0_5, .string a0_6, .slice A0_7 l0_7.length c0_7, .slice A0_8 l0_8.length c0_8] 25 (0, 0)) (by (with_reducible repeat (first | refine blk_drewN ?_ _ | refine blk_drew ?_ | refine blk_alloc ?_ _)); exact BK234.out) hb); have n1_ := Aside0.mk (below_step (by repeat (first | (with_reducible first | exact HB.out | apply below_alloc | apply pw_below_drewN | apply below_drew1 | refine below_set ?_ GE234.out) | exact HB.out)) hb); have n2_ := Aside0.mk (hbox); have n3_ := Aside0.mk ((by rw [hg]; exact (below_size (by repeat (first | (with_reducible first | exact HB.out | apply below_alloc | apply pw_below_drewN | apply below_drew1 | refine below_set ?_ GE234.out) | exact HB.out))) : w.heap.size ≤ gb235)); have n4_ := Aside0.mk ((by rw [hg]; exact (below_size (by repeat (first | (with_reducible first | exact HB.out | apply below_alloc | apply pw_below_drewN | apply below_drew1 | refine below_set ?_ GE234.out) | exact HB.out))) : w.heap.size ≤ gb235)); have n5_ := Aside0.mk ((by rw [hg]; exact Nat.ne_of_lt (blk_lt (g := gb234) (o := .cells #[.int .i64 a0_0, .int .i64 a0_1, .int .i64 a0_2, .int .i64 a0_3, .int .i64 a0_4, .int .i64 a0_5, .string a0_6, .slice A0_7 l0_7.length c0_7, .slice A0_8 l0_8.length c0_8] 25 (0, 0)) (by (with_reducible repeat (first | refine blk_drewN ?_ _ | refine blk_drew ?_ | refine blk_alloc ?_ _)); exact BK234.out)) : gb234 ≠ gb235)); have n6_ := Aside0.mk ((by rw [hg]; exact Nat.ne_of_gt (blk_lt (g := gb234) (o := .cells #[.int .i64 a0_0, .int .i64 a0_1, .int .i64 a0_2, .int .i64 a0_3, .int .i64 a0_4, .int .i64 a0_5, .string a0_6, .slice A0_7 l0_7.length c0_7, .slice A0_8 l0_8.length c0_8] 25 (0, 0)) (by (with_reducible repeat (first | refine blk_drewN ?_ _ | refine blk_drew ?_ | refine blk_alloc ?_ _)); exact BK234.out)) : gb235 ≠ gb234)); clear BK234; clear HB; have BK234 := n0_; have HB := n1_; have BK235 := n2_; have GW235 := n3_; have GE235 := n4_; have NB234_235 := n5_; have NB235_234 := n6_; clear n0_ n1_ n2_ n3_ n4_ n5_ n6_; clear hb hbox hg; have hnb15 := NB234_235.out; have hnc15 := NB235_234.out; have hcz16_0 : w14.cell? ⟨gb234, 0, none⟩ = some (.int .i64 a0_0) := (blk_cell BK234.out 0).trans rfl; have hcz16_1 : w14.cell? ⟨gb234, 1, none⟩ = some (.int .i64 a0_1) := (blk_cell BK234.out 1).trans rfl; have hcz16_2 : w14.cell? ⟨gb234, 2, none⟩ = some (.int .i64 a0_2) := (blk_cell BK234.out 2).trans rfl; have hcz16_3 : w14.cell? ⟨gb234, 3, none⟩ = some (.int .i64 a0_3) := (blk_cell BK234.out 3).trans rfl; have hcz16_4 : w14.cell? ⟨gb234, 4, none⟩ = some (.int .i64 a0_4) := (blk_cell BK234.out 4).trans rfl; have hcz16_5 : w14.cell? ⟨gb234, 5, none⟩ = some (.int .i64 a0_5) := (blk_cell BK234.out 5).trans rfl; have hcz16_6 : w14.cell? ⟨gb234, 6, none⟩ = some (.string a0_6) := (blk_cell BK234.out 6).trans rfl; have hcz16_7 : w14.cell? ⟨gb234, 7, none⟩ = some (.slice A0_7 l0_7.length c0_7) := (blk_cell BK234.out 7).trans rfl; have hcz16_8 : w14.cell? ⟨gb234, 8, none⟩ = some (.slice A0_8 l0_8.length c0_8) := (blk_cell BK234.out 8).trans rfl; have hfz16_0 := blk_frozen BK234.out 0; have hfz16_1 := blk_frozen BK234.out 1; have hfz16_2 := blk_frozen BK234.out 2; have hfz16_3 := blk_frozen BK234.out 3; have hfz16_4 := blk_frozen BK234.out 4; have hfz16_5 := blk_frozen BK234.out 5; have hfz16_6 := blk_frozen BK234.out 6; have hfz16_7 := blk_frozen BK234.out 7; have hfz16_8 := blk_frozen BK234.out 8; have hcz17_0 : w14.cell? ⟨gb235, 0, none⟩ = some (.int .i64 a1_0) := (blk_cell BK235.out 0).trans rfl; have hcz17_1 : w14.cell? ⟨gb235, 1, none⟩ = some (.int .i64 a1_1) := (blk_cell BK235.out 1).trans rfl; have hcz17_2 : w14.cell? ⟨gb235, 2, none⟩ = some (.int .i64 a1_2) := (blk_cell BK235.out 2).trans rfl; have hcz17_3 : w14.cell? ⟨gb235, 3, none⟩ = some (.int .i64 a1_3) := (blk_cell BK235.out 3).trans rfl; have hcz17_4 : w14.cell? ⟨gb235, 4, none⟩ = some (.int .i64 a1_4) := (blk_cell BK235.out 4).trans rfl; have hcz17_5 : w14.cell? ⟨gb235, 5, none⟩ = some (.int .i64 a1_5) := (blk_cell BK235.out 5).trans rfl; have hcz17_6 : w14.cell? ⟨gb235, 6, none⟩ = some (.string a1_6) := (blk_cell BK235.out 6).trans rfl; have hcz17_7 : w14.cell? ⟨gb235, 7, none⟩ = some (.slice A1_7 l1_7.length c1_7) := (blk_cell BK235.out 7).trans rfl; have hcz17_8 : w14.cell? ⟨gb235, 8, none⟩ = some (.slice A1_8 l1_8.length c1_8) := (blk_cell BK235.out 8).trans rfl; have hfz17_0 := blk_frozen BK235.out 0; have hfz17_1 := blk_frozen BK235.out 1; have hfz17_2 := blk_frozen BK235.out 2; have hfz17_3 := blk_frozen BK235.out 3; have hfz17_4 := blk_frozen BK235.out 4; have hfz17_5 := blk_frozen BK235.out 5; have hfz17_6 := blk_frozen BK235.out 6; have hfz17_7 := blk_frozen BK235.out 7; have hfz17_8 := blk_frozen BK235.out 8) | (go_at_call 34; (with_reducible refine (corncribbook_SameTexts.calls k _ _ l0_7 _ _ l1_7 true _ ?side1 ?side2 ?side3 ?side4 A10.out).mono ?_); (case side1 => repeat (first | exact (Kd.C_below HR0_7.out HB.out) | (with_reducible refine Kd.C_alloc ?_ _) | (with_reducible refine Kd.C_drewN ?_ _) | (with_reducible refine Kd.C_drew ?_))); (case side2 => exact HC0_7.out); (case side3 => repeat (first | exact (Kd.C_below HR1_7.out HB.out) | (with_reducible refine Kd.C_alloc ?_ _) | (with_reducible refine Kd.C_drewN ?_ _) | (with_reducible refine Kd.C_drew ?_))); (case side4 => exact HC1_7.out); rintro e w' ⟨rfl, ⟨nd, rfl⟩⟩) | (go_at_call 35; (with_reducible refine (corncribbook_SameWrites.calls k _ _ l0_8 _ _ l1_8 t237 _ ?side1 ?side2 ?side3 ?side4 A12.out).mono ?_); (case side1 => repeat (first | exact (Kd.C_below HR0_8.out (by repeat (first | (with_reducible first | exact HB.out | apply below_alloc | apply pw_below_drewN | apply below_drew1 | refine below_set ?_ GE234.out | refine below_set ?_ GE235.out) | exact HB.out))) | (with_reducible refine Kd.C_alloc ?_ _) | (with_reducible refine Kd.C_drewN ?_ _) | (with_reducible refine Kd.C_drew ?_))); (case side2 => exact HC0_8.out); (case side3 => repeat (first | exact (Kd.C_below HR1_8.out (by repeat (first | (with_reducible first | exact HB.out | apply below_alloc | apply pw_below_drewN | apply below_drew1 | refine below_set ?_ GE234.out | refine below_set ?_ GE235.out) | exact HB.out))) | (with_reducible refine Kd.C_alloc ?_ _) | (with_reducible refine Kd.C_drewN ?_ _) | (with_reducible refine Kd.C_drew ?_))); (case side4 => exact HC1_8.out); rintro e w' ⟨rfl, ⟨nd, rfl⟩⟩))
         go_ret
         exact ⟨by first | rfl | (simp [errW_none, errW_some] <;> rfl) | (simp [*, errW_none, errW_some] <;> rfl), by repeat (first | (with_reducible first | exact HB.out | apply below_alloc | apply pw_below_drewN | apply below_drew1 | refine below_set ?_ GE234.out | refine below_set ?_ GE235.out) | exact HB.out)⟩
        ·replace c11 := Bool.eq_false_iff.mpr c11
         subst c11
         have H1 : (some false) = some r := by rw [if_neg (show ¬ (false = true) by decide)] at H; exact H
         clear H
         have H := H1
         clear H1
         obtain rfl := Option.some.inj H
         go_enter Try.func15, Try.ntmps15
         go_wp2_with (first | ((with_reducible refine gate_dst (N := 2) rfl ?_); refine box_event ?hg (N := 2) ?hd (cs := #[.int .i64 a0_0, .int .i64 a0_1, .int .i64 a0_2, .int .i64 a0_3, .int .i64 a0_4, .int .i64 a0_5, .string a0_6, .slice A0_7 l0_7.length c0_7, .slice A0_8 l0_8.length c0_8]) (t := 25) ?hr ?_; (case hd => rfl); (case hg => rfl); (case hr => first | (go_simp; done) | (go_simp; rfl)); intro gb234 hg w18 hbox hb; have n0_ := Aside0.mk (below_step (by repeat (first | (with_reducible first | exact HB.out | apply below_alloc | apply pw_below_drewN | apply below_drew1) | exact HB.out)) hb); have n1_ := Aside0.mk (hbox); have n2_ := Aside0.mk ((by rw [hg]; exact (below_size (by repeat (first | (with_reducible first | exact HB.out | apply below_alloc | apply pw_below_drewN | apply below_drew1) | exact HB.out))) : w.heap.size ≤ gb234)); have n3_ := Aside0.mk ((by rw [hg]; exact (below_size (by repeat (first | (with_reducible first | exact HB.out | apply below_alloc | apply pw_below_drewN | apply below_drew1) | exact HB.out))) : w.heap.size ≤ gb234)); clear HB; have HB := n0_; have BK234 := n1_; have GW234 := n2_; have GE234 := n3_; clear n0_ n1_ n2_ n3_; clear hb hbox hg) | ((with_reducible refine gate_dst (N := 3) rfl ?_); refine box_event ?hg (N := 3) ?hd (cs := #[.int .i64 a1_0, .int .i64 a1_1, .int .i64 a1_2, .int .i64 a1_3, .int .i64 a1_4, .int .i64 a1_5, .string a1_6, .slice A1_7 l1_7.length c1_7, .slice A1_8 l1_8.length c1_8]) (t := 25) ?hr ?_; (case hd => rfl); (case hg => rfl); (case hr => first | (go_simp; done) | (go_simp; rfl)); intro gb235 hg w19 hbox hb; have n0_ := Aside0.mk (blk_below (g := gb234) (o := .cells #[.int .i64 a0_0, .int .i64 a0_1, .int .i64 a0_2, .int .i64 a0_3, .int .i64 a0_4, .int .i64 a0_5, .string a0_6, .slice A0_7 l0_7.length c0_7, .slice A0_8 l0_8.length c0_8] 25 (0, 0)) (by (with_reducible repeat (first | refine blk_drewN ?_ _ | refine blk_drew ?_ | refine blk_alloc ?_ _)); exact BK234.out) hb); have n1_ := Aside0.mk (below_step (by repeat (first | (with_reducible first | exact HB.out | apply below_alloc | apply pw_below_drewN | apply below_drew1 | refine below_set ?_ GE234.out) | exact HB.out)) hb); have n2_ := Aside0.mk (hbox); have n3_ := Aside0.mk ((by rw [hg]; exact (below_size (by repeat (first | (with_reducible first | exact HB.out | apply below_alloc | apply pw_below_drewN | apply below_drew1 | refine below_set ?_ GE234.out) | exact HB.out))) : w.heap.size ≤ gb235)); have n4_ := Aside0.mk ((by rw [hg]; exact (below_size (by repeat (first | (with_reducible first | exact HB.out | apply below_alloc | apply pw_below_drewN | apply below_drew1 | refine below_set ?_ GE234.out) | exact HB.out))) : w.heap.size ≤ gb235)); have n5_ := Aside0.mk ((by rw [hg]; exact Nat.ne_of_lt (blk_lt (g := gb234) (o := .cells #[.int .i64 a0_0, .int .i64 a0_1, .int .i64 a0_2, .int .i64 a0_3, .int .i64 a0_4, .int .i64 a0_5, .string a0_6, .slice A0_7 l0_7.length c0_7, .slice A0_8 l0_8.length c0_8] 25 (0, 0)) (by (with_reducible repeat (first | refine blk_drewN ?_ _ | refine blk_drew ?_ | refine blk_alloc ?_ _)); exact BK234.out)) : gb234 ≠ gb235)); have n6_ := Aside0.mk ((by rw [hg]; exact Nat.ne_of_gt (blk_lt (g := gb234) (o := .cells #[.int .i64 a0_0, .int .i64 a0_1, .int .i64 a0_2, .int .i64 a0_3, .int .i64 a0_4, .int .i64 a0_5, .string a0_6, .slice A0_7 l0_7.length c0_7, .slice A0_8 l0_8.length c0_8] 25 (0, 0)) (by (with_reducible repeat (first | refine blk_drewN ?_ _ | refine blk_drew ?_ | refine blk_alloc ?_ _)); exact BK234.out)) : gb235 ≠ gb234)); clear BK234; clear HB; have BK234 := n0_; have HB := n1_; have BK235 := n2_; have GW235 := n3_; have GE235 := n4_; have NB234_235 := n5_; have NB235_234 := n6_; clear n0_ n1_ n2_ n3_ n4_ n5_ n6_; clear hb hbox hg; have hnb20 := NB234_235.out; have hnc20 := NB235_234.out; have hcz21_0 : w19.cell? ⟨gb234, 0, none⟩ = some (.int .i64 a0_0) := (blk_cell BK234.out 0).trans rfl; have hcz21_1 : w19.cell? ⟨gb234, 1, none⟩ = some (.int .i64 a0_1) := (blk_cell BK234.out 1).trans rfl; have hcz21_2 : w19.cell? ⟨gb234, 2, none⟩ = some (.int .i64 a0_2) := (blk_cell BK234.out 2).trans rfl; have hcz21_3 : w19.cell? ⟨gb234, 3, none⟩ = some (.int .i64 a0_3) := (blk_cell BK234.out 3).trans rfl; have hcz21_4 : w19.cell? ⟨gb234, 4, none⟩ = some (.int .i64 a0_4) := (blk_cell BK234.out 4).trans rfl; have hcz21_5 : w19.cell? ⟨gb234, 5, none⟩ = some (.int .i64 a0_5) := (blk_cell BK234.out 5).trans rfl; have hcz21_6 : w19.cell? ⟨gb234, 6, none⟩ = some (.string a0_6) := (blk_cell BK234.out 6).trans rfl; have hcz21_7 : w19.cell? ⟨gb234, 7, none⟩ = some (.slice A0_7 l0_7.length c0_7) := (blk_cell BK234.out 7).trans rfl; have hcz21_8 : w19.cell? ⟨gb234, 8, none⟩ = some (.slice A0_8 l0_8.length c0_8) := (blk_cell BK234.out 8).trans rfl; have hfz21_0 := blk_frozen BK234.out 0; have hfz21_1 := blk_frozen BK234.out 1; have hfz21_2 := blk_frozen BK234.out 2; have hfz21_3 := blk_frozen BK234.out 3; have hfz21_4 := blk_frozen BK234.out 4; have hfz21_5 := blk_frozen BK234.out 5; have hfz21_6 := blk_frozen BK234.out 6; have hfz21_7 := blk_frozen BK234.out 7; have hfz21_8 := blk_frozen BK234.out 8; have hcz22_0 : w19.cell? ⟨gb235, 0, none⟩ = some (.int .i64 a1_0) := (blk_cell BK235.out 0).trans rfl; have hcz22_1 : w19.cell? ⟨gb235, 1, none⟩ = some (.int .i64 a1_1) := (blk_cell BK235.out 1).trans rfl; have hcz22_2 : w19.cell? ⟨gb235, 2, none⟩ = some (.int .i64 a1_2) := (blk_cell BK235.out 2).trans rfl; have hcz22_3 : w19.cell? ⟨gb235, 3, none⟩ = some (.int .i64 a1_3) := (blk_cell BK235.out 3).trans rfl; have hcz22_4 : w19.cell? ⟨gb235, 4, none⟩ = some (.int .i64 a1_4) := (blk_cell BK235.out 4).trans rfl; have hcz22_5 : w19.cell? ⟨gb235, 5, none⟩ = some (.int .i64 a1_5) := (blk_cell BK235.out 5).trans rfl; have hcz22_6 : w19.cell? ⟨gb235, 6, none⟩ = some (.string a1_6) := (blk_cell BK235.out 6).trans rfl; have hcz22_7 : w19.cell? ⟨gb235, 7, none⟩ = some (.slice A1_7 l1_7.length c1_7) := (blk_cell BK235.out 7).trans rfl; have hcz22_8 : w19.cell? ⟨gb235, 8, none⟩ = some (.slice A1_8 l1_8.length c1_8) := (blk_cell BK235.out 8).trans rfl; have hfz22_0 := blk_frozen BK235.out 0; have hfz22_1 := blk_frozen BK235.out 1; have hfz22_2 := blk_frozen BK235.out 2; have hfz22_3 := blk_frozen BK235.out 3; have hfz22_4 := blk_frozen BK235.out 4; have hfz22_5 := blk_frozen BK235.out 5; have hfz22_6 := blk_frozen BK235.out 6; have hfz22_7 := blk_frozen BK235.out 7; have hfz22_8 := blk_frozen BK235.out 8) | (go_at_call 34; (with_reducible refine (corncribbook_SameTexts.calls k _ _ l0_7 _ _ l1_7 false _ ?side1 ?side2 ?side3 ?side4 A10.out).mono ?_); (case side1 => repeat (first | exact (Kd.C_below HR0_7.out HB.out) | (with_reducible refine Kd.C_alloc ?_ _) | (with_reducible refine Kd.C_drewN ?_ _) | (with_reducible refine Kd.C_drew ?_))); (case side2 => exact HC0_7.out); (case side3 => repeat (first | exact (Kd.C_below HR1_7.out HB.out) | (with_reducible refine Kd.C_alloc ?_ _) | (with_reducible refine Kd.C_drewN ?_ _) | (with_reducible refine Kd.C_drew ?_))); (case side4 => exact HC1_7.out); rintro e w' ⟨rfl, ⟨nd, rfl⟩⟩))
         go_ret
         exact ⟨by first | rfl | (simp [errW_none, errW_some] <;> rfl) | (simp [*, errW_none, errW_some] <;> rfl), by repeat (first | (with_reducible first | exact HB.out | apply below_alloc | apply pw_below_drewN | apply below_drew1 | refine below_set ?_ GE234.out | refine below_set ?_ GE235.out) | exact HB.out)⟩
       ·rw [if_neg c9] at H
        have c9b0 : (a0_6.toList == a1_6.toList) = false := beq_eq_false_iff_ne.mpr c9
        have c9b1 : (a0_6.toList != a1_6.toList) = true := bne_iff_ne.mpr c9
        obtain rfl := Option.some.inj H
        go_enter Try.func15, Try.ntmps15
        go_wp2_with (first | ((with_reducible refine gate_dst (N := 2) rfl ?_); refine box_event ?hg (N := 2) ?hd (cs := #[.int .i64 a0_0, .int .i64 a0_1, .int .i64 a0_2, .int .i64 a0_3, .int .i64 a0_4, .int .i64 a0_5, .string a0_6, .slice A0_7 l0_7.length c0_7, .slice A0_8 l0_8.length c0_8]) (t := 25) ?hr ?_; (case hd => rfl); (case hg => rfl); (case hr => first | (go_simp; done) | (go_simp; rfl)); intro gb234 hg w23 hbox hb; have n0_ := Aside0.mk (below_step (by repeat (first | (with_reducible first | exact HB.out | apply below_alloc | apply pw_below_drewN | apply below_drew1) | exact HB.out)) hb); have n1_ := Aside0.mk (hbox); have n2_ := Aside0.mk ((by rw [hg]; exact (below_size (by repeat (first | (with_reducible first | exact HB.out | apply below_alloc | apply pw_below_drewN | apply below_drew1) | exact HB.out))) : w.heap.size ≤ gb234)); have n3_ := Aside0.mk ((by rw [hg]; exact (below_size (by repeat (first | (with_reducible first | exact HB.out | apply below_alloc | apply pw_below_drewN | apply below_drew1) | exact HB.out))) : w.heap.size ≤ gb234)); clear HB; have HB := n0_; have BK234 := n1_; have GW234 := n2_; have GE234 := n3_; clear n0_ n1_ n2_ n3_; clear hb hbox hg) | ((with_reducible refine gate_dst (N := 3) rfl ?_); refine box_event ?hg (N := 3) ?hd (cs := #[.int .i64 a1_0, .int .i64 a1_1, .int .i64 a1_2, .int .i64 a1_3, .int .i64 a1_4, .int .i64 a1_5, .string a1_6, .slice A1_7 l1_7.length c1_7, .slice A1_8 l1_8.length c1_8]) (t := 25) ?hr ?_; (case hd => rfl); (case hg => rfl); (case hr => first | (go_simp; done) | (go_simp; rfl)); intro gb235 hg w24 hbox hb; have n0_ := Aside0.mk (blk_below (g := gb234) (o := .cells #[.int .i64 a0_0, .int .i64 a0_1, .int .i64 a0_2, .int .i64 a0_3, .int .i64 a0_4, .int .i64 a0_5, .string a0_6, .slice A0_7 l0_7.length c0_7, .slice A0_8 l0_8.length c0_8] 25 (0, 0)) (by (with_reducible repeat (first | refine blk_drewN ?_ _ | refine blk_drew ?_ | refine blk_alloc ?_ _)); exact BK234.out) hb); have n1_ := Aside0.mk (below_step (by repeat (first | (with_reducible first | exact HB.out | apply below_alloc | apply pw_below_drewN | apply below_drew1 | refine below_set ?_ GE234.out) | exact HB.out)) hb); have n2_ := Aside0.mk (hbox); have n3_ := Aside0.mk ((by rw [hg]; exact (below_size (by repeat (first | (with_reducible first | exact HB.out | apply below_alloc | apply pw_below_drewN | apply below_drew1 | refine below_set ?_ GE234.out) | exact HB.out))) : w.heap.size ≤ gb235)); have n4_ := Aside0.mk ((by rw [hg]; exact (below_size (by repeat (first | (with_reducible first | exact HB.out | apply below_alloc | apply pw_below_drewN | apply below_drew1 | refine below_set ?_ GE234.out) | exact HB.out))) : w.heap.size ≤ gb235)); have n5_ := Aside0.mk ((by rw [hg]; exact Nat.ne_of_lt (blk_lt (g := gb234) (o := .cells #[.int .i64 a0_0, .int .i64 a0_1, .int .i64 a0_2, .int .i64 a0_3, .int .i64 a0_4, .int .i64 a0_5, .string a0_6, .slice A0_7 l0_7.length c0_7, .slice A0_8 l0_8.length c0_8] 25 (0, 0)) (by (with_reducible repeat (first | refine blk_drewN ?_ _ | refine blk_drew ?_ | refine blk_alloc ?_ _)); exact BK234.out)) : gb234 ≠ gb235)); have n6_ := Aside0.mk ((by rw [hg]; exact Nat.ne_of_gt (blk_lt (g := gb234) (o := .cells #[.int .i64 a0_0, .int .i64 a0_1, .int .i64 a0_2, .int .i64 a0_3, .int .i64 a0_4, .int .i64 a0_5, .string a0_6, .slice A0_7 l0_7.length c0_7, .slice A0_8 l0_8.length c0_8] 25 (0, 0)) (by (with_reducible repeat (first | refine blk_drewN ?_ _ | refine blk_drew ?_ | refine blk_alloc ?_ _)); exact BK234.out)) : gb235 ≠ gb234)); clear BK234; clear HB; have BK234 := n0_; have HB := n1_; have BK235 := n2_; have GW235 := n3_; have GE235 := n4_; have NB234_235 := n5_; have NB235_234 := n6_; clear n0_ n1_ n2_ n3_ n4_ n5_ n6_; clear hb hbox hg; have hnb25 := NB234_235.out; have hnc25 := NB235_234.out; have hcz26_0 : w24.cell? ⟨gb234, 0, none⟩ = some (.int .i64 a0_0) := (blk_cell BK234.out 0).trans rfl; have hcz26_1 : w24.cell? ⟨gb234, 1, none⟩ = some (.int .i64 a0_1) := (blk_cell BK234.out 1).trans rfl; have hcz26_2 : w24.cell? ⟨gb234, 2, none⟩ = some (.int .i64 a0_2) := (blk_cell BK234.out 2).trans rfl; have hcz26_3 : w24.cell? ⟨gb234, 3, none⟩ = some (.int .i64 a0_3) := (blk_cell BK234.out 3).trans rfl; have hcz26_4 : w24.cell? ⟨gb234, 4, none⟩ = some (.int .i64 a0_4) := (blk_cell BK234.out 4).trans rfl; have hcz26_5 : w24.cell? ⟨gb234, 5, none⟩ = some (.int .i64 a0_5) := (blk_cell BK234.out 5).trans rfl; have hcz26_6 : w24.cell? ⟨gb234, 6, none⟩ = some (.string a0_6) := (blk_cell BK234.out 6).trans rfl; have hcz26_7 : w24.cell? ⟨gb234, 7, none⟩ = some (.slice A0_7 l0_7.length c0_7) := (blk_cell BK234.out 7).trans rfl; have hcz26_8 : w24.cell? ⟨gb234, 8, none⟩ = some (.slice A0_8 l0_8.length c0_8) := (blk_cell BK234.out 8).trans rfl; have hfz26_0 := blk_frozen BK234.out 0; have hfz26_1 := blk_frozen BK234.out 1; have hfz26_2 := blk_frozen BK234.out 2; have hfz26_3 := blk_frozen BK234.out 3; have hfz26_4 := blk_frozen BK234.out 4; have hfz26_5 := blk_frozen BK234.out 5; have hfz26_6 := blk_frozen BK234.out 6; have hfz26_7 := blk_frozen BK234.out 7; have hfz26_8 := blk_frozen BK234.out 8; have hcz27_0 : w24.cell? ⟨gb235, 0, none⟩ = some (.int .i64 a1_0) := (blk_cell BK235.out 0).trans rfl; have hcz27_1 : w24.cell? ⟨gb235, 1, none⟩ = some (.int .i64 a1_1) := (blk_cell BK235.out 1).trans rfl; have hcz27_2 : w24.cell? ⟨gb235, 2, none⟩ = some (.int .i64 a1_2) := (blk_cell BK235.out 2).trans rfl; have hcz27_3 : w24.cell? ⟨gb235, 3, none⟩ = some (.int .i64 a1_3) := (blk_cell BK235.out 3).trans rfl; have hcz27_4 : w24.cell? ⟨gb235, 4, none⟩ = some (.int .i64 a1_4) := (blk_cell BK235.out 4).trans rfl; have hcz27_5 : w24.cell? ⟨gb235, 5, none⟩ = some (.int .i64 a1_5) := (blk_cell BK235.out 5).trans rfl; have hcz27_6 : w24.cell? ⟨gb235, 6, none⟩ = some (.string a1_6) := (blk_cell BK235.out 6).trans rfl; have hcz27_7 : w24.cell? ⟨gb235, 7, none⟩ = some (.slice A1_7 l1_7.length c1_7) := (blk_cell BK235.out 7).trans rfl; have hcz27_8 : w24.cell? ⟨gb235, 8, none⟩ = some (.slice A1_8 l1_8.length c1_8) := (blk_cell BK235.out 8).trans rfl; have hfz27_0 := blk_frozen BK235.out 0; have hfz27_1 := blk_frozen BK235.out 1; have hfz27_2 := blk_frozen BK235.out 2; have hfz27_3 := blk_frozen BK235.out 3; have hfz27_4 := blk_frozen BK235.out 4; have hfz27_5 := blk_frozen BK235.out 5; have hfz27_6 := blk_frozen BK235.out 6; have hfz27_7 := blk_frozen BK235.out 7; have hfz27_8 := blk_frozen BK235.out 8))
        go_ret
        exact ⟨by first | rfl | (simp [errW_none, errW_some] <;> rfl) | (simp [*, errW_none, errW_some] <;> rfl), by repeat (first | (with_reducible first | exact HB.out | apply below_alloc | apply pw_below_drewN | apply below_drew1 | refine below_set ?_ GE234.out | refine below_set ?_ GE235.out) | exact HB.out)⟩
      ·rw [if_neg c8] at H
       have c8b0 : (a0_5 == a1_5) = false := beq_eq_false_iff_ne.mpr c8
       have c8b1 : (a0_5 != a1_5) = true := bne_iff_ne.mpr c8
       obtain rfl := Option.some.inj H
       go_enter Try.func15, Try.ntmps15
       go_wp2_with (first | ((with_reducible refine gate_dst (N := 2) rfl ?_); refine box_event ?hg (N := 2) ?hd (cs := #[.int .i64 a0_0, .int .i64 a0_1, .int .i64 a0_2, .int .i64 a0_3, .int .i64 a0_4, .int .i64 a0_5, .string a0_6, .slice A0_7 l0_7.length c0_7, .slice A0_8 l0_8.length c0_8]) (t := 25) ?hr ?_; (case hd => rfl); (case hg => rfl); (case hr => first | (go_simp; done) | (go_simp; rfl)); intro gb234 hg w28 hbox hb; have n0_ := Aside0.mk (below_step (by repeat (first | (with_reducible first | exact HB.out | apply below_alloc | apply pw_below_drewN | apply below_drew1) | exact HB.out)) hb); have n1_ := Aside0.mk (hbox); have n2_ := Aside0.mk ((by rw [hg]; exact (below_size (by repeat (first | (with_reducible first | exact HB.out | apply below_alloc | apply pw_below_drewN | apply below_drew1) | exact HB.out))) : w.heap.size ≤ gb234)); have n3_ := Aside0.mk ((by rw [hg]; exact (below_size (by repeat (first | (with_reducible first | exact HB.out | apply below_alloc | apply pw_below_drewN | apply below_drew1) | exact HB.out))) : w.heap.size ≤ gb234)); clear HB; have HB := n0_; have BK234 := n1_; have GW234 := n2_; have GE234 := n3_; clear n0_ n1_ n2_ n3_; clear hb hbox hg) | ((with_reducible refine gate_dst (N := 3) rfl ?_); refine box_event ?hg (N := 3) ?hd (cs := #[.int .i64 a1_0, .int .i64 a1_1, .int .i64 a1_2, .int .i64 a1_3, .int .i64 a1_4, .int .i64 a1_5, .string a1_6, .slice A1_7 l1_7.length c1_7, .slice A1_8 l1_8.length c1_8]) (t := 25) ?hr ?_; (case hd => rfl); (case hg => rfl); (case hr => first | (go_simp; done) | (go_simp; rfl)); intro gb235 hg w29 hbox hb; have n0_ := Aside0.mk (blk_below (g := gb234) (o := .cells #[.int .i64 a0_0, .int .i64 a0_1, .int .i64 a0_2, .int .i64 a0_3, .int .i64 a0_4, .int .i64 a0_5, .string a0_6, .slice A0_7 l0_7.length c0_7, .slice A0_8 l0_8.length c0_8] 25 (0, 0)) (by (with_reducible repeat (first | refine blk_drewN ?_ _ | refine blk_drew ?_ | refine blk_alloc ?_ _)); exact BK234.out) hb); have n1_ := Aside0.mk (below_step (by repeat (first | (with_reducible first | exact HB.out | apply below_alloc | apply pw_below_drewN | apply below_drew1 | refine below_set ?_ GE234.out) | exact HB.out)) hb); have n2_ := Aside0.mk (hbox); have n3_ := Aside0.mk ((by rw [hg]; exact (below_size (by repeat (first | (with_reducible first | exact HB.out | apply below_alloc | apply pw_below_drewN | apply below_drew1 | refine below_set ?_ GE234.out) | exact HB.out))) : w.heap.size ≤ gb235)); have n4_ := Aside0.mk ((by rw [hg]; exact (below_size (by repeat (first | (with_reducible first | exact HB.out | apply below_alloc | apply pw_below_drewN | apply below_drew1 | refine below_set ?_ GE234.out) | exact HB.out))) : w.heap.size ≤ gb235)); have n5_ := Aside0.mk ((by rw [hg]; exact Nat.ne_of_lt (blk_lt (g := gb234) (o := .cells #[.int .i64 a0_0, .int .i64 a0_1, .int .i64 a0_2, .int .i64 a0_3, .int .i64 a0_4, .int .i64 a0_5, .string a0_6, .slice A0_7 l0_7.length c0_7, .slice A0_8 l0_8.length c0_8] 25 (0, 0)) (by (with_reducible repeat (first | refine blk_drewN ?_ _ | refine blk_drew ?_ | refine blk_alloc ?_ _)); exact BK234.out)) : gb234 ≠ gb235)); have n6_ := Aside0.mk ((by rw [hg]; exact Nat.ne_of_gt (blk_lt (g := gb234) (o := .cells #[.int .i64 a0_0, .int .i64 a0_1, .int .i64 a0_2, .int .i64 a0_3, .int .i64 a0_4, .int .i64 a0_5, .string a0_6, .slice A0_7 l0_7.length c0_7, .slice A0_8 l0_8.length c0_8] 25 (0, 0)) (by (with_reducible repeat (first | refine blk_drewN ?_ _ | refine blk_drew ?_ | refine blk_alloc ?_ _)); exact BK234.out)) : gb235 ≠ gb234)); clear BK234; clear HB; have BK234 := n0_; have HB := n1_; have BK235 := n2_; have GW235 := n3_; have GE235 := n4_; have NB234_235 := n5_; have NB235_234 := n6_; clear n0_ n1_ n2_ n3_ n4_ n5_ n6_; clear hb hbox hg; have hnb30 := NB234_235.out; have hnc30 := NB235_234.out; have hcz31_0 : w29.cell? ⟨gb234, 0, none⟩ = some (.int .i64 a0_0) := (blk_cell BK234.out 0).trans rfl; have hcz31_1 : w29.cell? ⟨gb234, 1, none⟩ = some (.int .i64 a0_1) := (blk_cell BK234.out 1).trans rfl; have hcz31_2 : w29.cell? ⟨gb234, 2, none⟩ = some (.int .i64 a0_2) := (blk_cell BK234.out 2).trans rfl; have hcz31_3 : w29.cell? ⟨gb234, 3, none⟩ = some (.int .i64 a0_3) := (blk_cell BK234.out 3).trans rfl; have hcz31_4 : w29.cell? ⟨gb234, 4, none⟩ = some (.int .i64 a0_4) := (blk_cell BK234.out 4).trans rfl; have hcz31_5 : w29.cell? ⟨gb234, 5, none⟩ = some (.int .i64 a0_5) := (blk_cell BK234.out 5).trans rfl; have hcz31_6 : w29.cell? ⟨gb234, 6, none⟩ = some (.string a0_6) := (blk_cell BK234.out 6).trans rfl; have hcz31_7 : w29.cell? ⟨gb234, 7, none⟩ = some (.slice A0_7 l0_7.length c0_7) := (blk_cell BK234.out 7).trans rfl; have hcz31_8 : w29.cell? ⟨gb234, 8, none⟩ = some (.slice A0_8 l0_8.length c0_8) := (blk_cell BK234.out 8).trans rfl; have hfz31_0 := blk_frozen BK234.out 0; have hfz31_1 := blk_frozen BK234.out 1; have hfz31_2 := blk_frozen BK234.out 2; have hfz31_3 := blk_frozen BK234.out 3; have hfz31_4 := blk_frozen BK234.out 4; have hfz31_5 := blk_frozen BK234.out 5; have hfz31_6 := blk_frozen BK234.out 6; have hfz31_7 := blk_frozen BK234.out 7; have hfz31_8 := blk_frozen BK234.out 8; have hcz32_0 : w29.cell? ⟨gb235, 0, none⟩ = some (.int .i64 a1_0) := (blk_cell BK235.out 0).trans rfl; have hcz32_1 : w29.cell? ⟨gb235, 1, none⟩ = some (.int .i64 a1_1) := (blk_cell BK235.out 1).trans rfl; have hcz32_2 : w29.cell? ⟨gb235, 2, none⟩ = some (.int .i64 a1_2) := (blk_cell BK235.out 2).trans rfl; have hcz32_3 : w29.cell? ⟨gb235, 3, none⟩ = some (.int .i64 a1_3) := (blk_cell BK235.out 3).trans rfl; have hcz32_4 : w29.cell? ⟨gb235, 4, none⟩ = some (.int .i64 a1_4) := (blk_cell BK235.out 4).trans rfl; have hcz32_5 : w29.cell? ⟨gb235, 5, none⟩ = some (.int .i64 a1_5) := (blk_cell BK235.out 5).trans rfl; have hcz32_6 : w29.cell? ⟨gb235, 6, none⟩ = some (.string a1_6) := (blk_cell BK235.out 6).trans rfl; have hcz32_7 : w29.cell? ⟨gb235, 7, none⟩ = some (.slice A1_7 l1_7.length c1_7) := (blk_cell BK235.out 7).trans rfl; have hcz32_8 : w29.cell? ⟨gb235, 8, none⟩ = some (.slice A1_8 l1_8.length c1_8) := (blk_cell BK235.out 8).trans rfl; have hfz32_0 := blk_frozen BK235.out 0; have hfz32_1 := blk_frozen BK235.out 1; have hfz32_2 := blk_frozen BK235.out 2; have hfz32_3 := blk_frozen BK235.out 3; have hfz32_4 := blk_frozen BK235.out 4; have hfz32_5 := blk_frozen BK235.out 5; have hfz32_6 := blk_frozen BK235.out 6; have hfz32_7 := blk_frozen BK235.out 7; have hfz32_8 := blk_frozen BK235.out 8))
       go_ret
       exact ⟨by first | rfl | (simp [errW_none, errW_some] <;> rfl) | (simp [*, errW_none, errW_some] <;> rfl), by repeat (first | (with_reducible first | exact HB.out | apply below_alloc | apply pw_below_drewN | apply below_drew1 | refine below_set ?_ GE234.out | refine below_set ?_ GE235.out) | exact HB.out)⟩
     ·rw [if_neg c7] at H
      have c7b0 : (a0_4 == a1_4) = false := beq_eq_false_iff_ne.mpr c7
      have c7b1 : (a0_4 != a1_4) = true := bne_iff_ne.mpr c7
      obtain rfl := Option.some.inj H
      go_enter Try.func15, Try.ntmps15
      go_wp2_with (first | ((with_reducible refine gate_dst (N := 2) rfl ?_); refine box_event ?hg (N := 2) ?hd (cs := #[.int .i64 a0_0, .int .i64 a0_1, .int .i64 a0_2, .int .i64 a0_3, .int .i64 a0_4, .int .i64 a0_5, .string a0_6, .slice A0_7 l0_7.length c0_7, .slice A0_8 l0_8.length c0_8]) (t := 25) ?hr ?_; (case hd => rfl); (case hg => rfl); (case hr => first | (go_simp; done) | (go_simp; rfl)); intro gb234 hg w33 hbox hb; have n0_ := Aside0.mk (below_step (by repeat (first | (with_reducible first | exact HB.out | apply below_alloc | apply pw_below_drewN | apply below_drew1) | exact HB.out)) hb); have n1_ := Aside0.mk (hbox); have n2_ := Aside0.mk ((by rw [hg]; exact (below_size (by repeat (first | (with_reducible first | exact HB.out | apply below_alloc | apply pw_below_drewN | apply below_drew1) | exact HB.out))) : w.heap.size ≤ gb234)); have n3_ := Aside0.mk ((by rw [hg]; exact (below_size (by repeat (first | (with_reducible first | exact HB.out | apply below_alloc | apply pw_below_drewN | apply below_drew1) | exact HB.out))) : w.heap.size ≤ gb234)); clear HB; have HB := n0_; have BK234 := n1_; have GW234 := n2_; have GE234 := n3_; clear n0_ n1_ n2_ n3_; clear hb hbox hg) | ((with_reducible refine gate_dst (N := 3) rfl ?_); refine box_event ?hg (N := 3) ?hd (cs := #[.int .i64 a1_0, .int .i64 a1_1, .int .i64 a1_2, .int .i64 a1_3, .int .i64 a1_4, .int .i64 a1_5, .string a1_6, .slice A1_7 l1_7.length c1_7, .slice A1_8 l1_8.length c1_8]) (t := 25) ?hr ?_; (case hd => rfl); (case hg => rfl); (case hr => first | (go_simp; done) | (go_simp; rfl)); intro gb235 hg w34 hbox hb; have n0_ := Aside0.mk (blk_below (g := gb234) (o := .cells #[.int .i64 a0_0, .int .i64 a0_1, .int .i64 a0_2, .int .i64 a0_3, .int .i64 a0_4, .int .i64 a0_5, .string a0_6, .slice A0_7 l0_7.length c0_7, .slice A0_8 l0_8.length c0_8] 25 (0, 0)) (by (with_reducible repeat (first | refine blk_drewN ?_ _ | refine blk_drew ?_ | refine blk_alloc ?_ _)); exact BK234.out) hb); have n1_ := Aside0.mk (below_step (by repeat (first | (with_reducible first | exact HB.out | apply below_alloc | apply pw_below_drewN | apply below_drew1 | refine below_set ?_ GE234.out) | exact HB.out)) hb); have n2_ := Aside0.mk (hbox); have n3_ := Aside0.mk ((by rw [hg]; exact (below_size (by repeat (first | (with_reducible first | exact HB.out | apply below_alloc | apply pw_below_drewN | apply below_drew1 | refine below_set ?_ GE234.out) | exact HB.out))) : w.heap.size ≤ gb235)); have n4_ := Aside0.mk ((by rw [hg]; exact (below_size (by repeat (first | (with_reducible first | exact HB.out | apply below_alloc | apply pw_below_drewN | apply below_drew1 | refine below_set ?_ GE234.out) | exact HB.out))) : w.heap.size ≤ gb235)); have n5_ := Aside0.mk ((by rw [hg]; exact Nat.ne_of_lt (blk_lt (g := gb234) (o := .cells #[.int .i64 a0_0, .int .i64 a0_1, .int .i64 a0_2, .int .i64 a0_3, .int .i64 a0_4, .int .i64 a0_5, .string a0_6, .slice A0_7 l0_7.length c0_7, .slice A0_8 l0_8.length c0_8] 25 (0, 0)) (by (with_reducible repeat (first | refine blk_drewN ?_ _ | refine blk_drew ?_ | refine blk_alloc ?_ _)); exact BK234.out)) : gb234 ≠ gb235)); have n6_ := Aside0.mk ((by rw [hg]; exact Nat.ne_of_gt (blk_lt (g := gb234) (o := .cells #[.int .i64 a0_0, .int .i64 a0_1, .int .i64 a0_2, .int .i64 a0_3, .int .i64 a0_4, .int .i64 a0_5, .string a0_6, .slice A0_7 l0_7.length c0_7, .slice A0_8 l0_8.length c0_8] 25 (0, 0)) (by (with_reducible repeat (first | refine blk_drewN ?_ _ | refine blk_drew ?_ | refine blk_alloc ?_ _)); exact BK234.out)) : gb235 ≠ gb234)); clear BK234; clear HB; have BK234 := n0_; have HB := n1_; have BK235 := n2_; have GW235 := n3_; have GE235 := n4_; have NB234_235 := n5_; have NB235_234 := n6_; clear n0_ n1_ n2_ n3_ n4_ n5_ n6_; clear hb hbox hg; have hnb35 := NB234_235.out; have hnc35 := NB235_234.out; have hcz36_0 : w34.cell? ⟨gb234, 0, none⟩ = some (.int .i64 a0_0) := (blk_cell BK234.out 0).trans rfl; have hcz36_1 : w34.cell? ⟨gb234, 1, none⟩ = some (.int .i64 a0_1) := (blk_cell BK234.out 1).trans rfl; have hcz36_2 : w34.cell? ⟨gb234, 2, none⟩ = some (.int .i64 a0_2) := (blk_cell BK234.out 2).trans rfl; have hcz36_3 : w34.cell? ⟨gb234, 3, none⟩ = some (.int .i64 a0_3) := (blk_cell BK234.out 3).trans rfl; have hcz36_4 : w34.cell? ⟨gb234, 4, none⟩ = some (.int .i64 a0_4) := (blk_cell BK234.out 4).trans rfl; have hcz36_5 : w34.cell? ⟨gb234, 5, none⟩ = some (.int .i64 a0_5) := (blk_cell BK234.out 5).trans rfl; have hcz36_6 : w34.cell? ⟨gb234, 6, none⟩ = some (.string a0_6) := (blk_cell BK234.out 6).trans rfl; have hcz36_7 : w34.cell? ⟨gb234, 7, none⟩ = some (.slice A0_7 l0_7.length c0_7) := (blk_cell BK234.out 7).trans rfl; have hcz36_8 : w34.cell? ⟨gb234, 8, none⟩ = some (.slice A0_8 l0_8.length c0_8) := (blk_cell BK234.out 8).trans rfl; have hfz36_0 := blk_frozen BK234.out 0; have hfz36_1 := blk_frozen BK234.out 1; have hfz36_2 := blk_frozen BK234.out 2; have hfz36_3 := blk_frozen BK234.out 3; have hfz36_4 := blk_frozen BK234.out 4; have hfz36_5 := blk_frozen BK234.out 5; have hfz36_6 := blk_frozen BK234.out 6; have hfz36_7 := blk_frozen BK234.out 7; have hfz36_8 := blk_frozen BK234.out 8; have hcz37_0 : w34.cell? ⟨gb235, 0, none⟩ = some (.int .i64 a1_0) := (blk_cell BK235.out 0).trans rfl; have hcz37_1 : w34.cell? ⟨gb235, 1, none⟩ = some (.int .i64 a1_1) := (blk_cell BK235.out 1).trans rfl; have hcz37_2 : w34.cell? ⟨gb235, 2, none⟩ = some (.int .i64 a1_2) := (blk_cell BK235.out 2).trans rfl; have hcz37_3 : w34.cell? ⟨gb235, 3, none⟩ = some (.int .i64 a1_3) := (blk_cell BK235.out 3).trans rfl; have hcz37_4 : w34.cell? ⟨gb235, 4, none⟩ = some (.int .i64 a1_4) := (blk_cell BK235.out 4).trans rfl; have hcz37_5 : w34.cell? ⟨gb235, 5, none⟩ = some (.int .i64 a1_5) := (blk_cell BK235.out 5).trans rfl; have hcz37_6 : w34.cell? ⟨gb235, 6, none⟩ = some (.string a1_6) := (blk_cell BK235.out 6).trans rfl; have hcz37_7 : w34.cell? ⟨gb235, 7, none⟩ = some (.slice A1_7 l1_7.length c1_7) := (blk_cell BK235.out 7).trans rfl; have hcz37_8 : w34.cell? ⟨gb235, 8, none⟩ = some (.slice A1_8 l1_8.length c1_8) := (blk_cell BK235.out 8).trans rfl; have hfz37_0 := blk_frozen BK235.out 0; have hfz37_1 := blk_frozen BK235.out 1; have hfz37_2 := blk_frozen BK235.out 2; have hfz37_3 := blk_frozen BK235.out 3; have hfz37_4 := blk_frozen BK235.out 4; have hfz37_5 := blk_frozen BK235.out 5; have hfz37_6 := blk_frozen BK235.out 6; have hfz37_7 := blk_frozen BK235.out 7; have hfz37_8 := blk_frozen BK235.out 8))
      go_ret
      exact ⟨by first | rfl | (simp [errW_none, errW_some] <;> rfl) | (simp [*, errW_none, errW_some] <;> rfl), by repeat (first | (with_reducible first | exact HB.out | apply below_alloc | apply pw_below_drewN | apply below_drew1 | refine below_set ?_ GE234.out | refine below_set ?_ GE235.out) | exact HB.out)⟩
    ·rw [if_neg c6] at H
     have c6b0 : (a0_3 == a1_3) = false := beq_eq_false_iff_ne.mpr c6
     have c6b1 : (a0_3 != a1_3) = true := bne_iff_ne.mpr c6
     obtain rfl := Option.some.inj H
     go_enter Try.func15, Try.ntmps15
     go_wp2_with (first | ((with_reducible refine gate_dst (N := 2) rfl ?_); refine box_event ?hg (N := 2) ?hd (cs := #[.int .i64 a0_0, .int .i64 a0_1, .int .i64 a0_2, .int .i64 a0_3, .int .i64 a0_4, .int .i64 a0_5, .string a0_6, .slice A0_7 l0_7.length c0_7, .slice A0_8 l0_8.length c0_8]) (t := 25) ?hr ?_; (case hd => rfl); (case hg => rfl); (case hr => first | (go_simp; done) | (go_simp; rfl)); intro gb234 hg w38 hbox hb; have n0_ := Aside0.mk (below_step (by repeat (first | (with_reducible first | exact HB.out | apply below_alloc | apply pw_below_drewN | apply below_drew1) | exact HB.out)) hb); have n1_ := Aside0.mk (hbox); have n2_ := Aside0.mk ((by rw [hg]; exact (below_size (by repeat (first | (with_reducible first | exact HB.out | apply below_alloc | apply pw_below_drewN | apply below_drew1) | exact HB.out))) : w.heap.size ≤ gb234)); have n3_ := Aside0.mk ((by rw [hg]; exact (below_size (by repeat (first | (with_reducible first | exact HB.out | apply below_alloc | apply pw_below_drewN | apply below_drew1) | exact HB.out))) : w.heap.size ≤ gb234)); clear HB; have HB := n0_; have BK234 := n1_; have GW234 := n2_; have GE234 := n3_; clear n0_ n1_ n2_ n3_; clear hb hbox hg) | ((with_reducible refine gate_dst (N := 3) rfl ?_); refine box_event ?hg (N := 3) ?hd (cs := #[.int .i64 a1_0, .int .i64 a1_1, .int .i64 a1_2, .int .i64 a1_3, .int .i64 a1_4, .int .i64 a1_5, .string a1_6, .slice A1_7 l1_7.length c1_7, .slice A1_8 l1_8.length c1_8]) (t := 25) ?hr ?_; (case hd => rfl); (case hg => rfl); (case hr => first | (go_simp; done) | (go_simp; rfl)); intro gb235 hg w39 hbox hb; have n0_ := Aside0.mk (blk_below (g := gb234) (o := .cells #[.int .i64 a0_0, .int .i64 a0_1, .int .i64 a0_2, .int .i64 a0_3, .int .i64 a0_4, .int .i64 a0_5, .string a0_6, .slice A0_7 l0_7.length c0_7, .slice A0_8 l0_8.length c0_8] 25 (0, 0)) (by (with_reducible repeat (first | refine blk_drewN ?_ _ | refine blk_drew ?_ | refine blk_alloc ?_ _)); exact BK234.out) hb); have n1_ := Aside0.mk (below_step (by repeat (first | (with_reducible first | exact HB.out | apply below_alloc | apply pw_below_drewN | apply below_drew1 | refine below_set ?_ GE234.out) | exact HB.out)) hb); have n2_ := Aside0.mk (hbox); have n3_ := Aside0.mk ((by rw [hg]; exact (below_size (by repeat (first | (with_reducible first | exact HB.out | apply below_alloc | apply pw_below_drewN | apply below_drew1 | refine below_set ?_ GE234.out) | exact HB.out))) : w.heap.size ≤ gb235)); have n4_ := Aside0.mk ((by rw [hg]; exact (below_size (by repeat (first | (with_reducible first | exact HB.out | apply below_alloc | apply pw_below_drewN | apply below_drew1 | refine below_set ?_ GE234.out) | exact HB.out))) : w.heap.size ≤ gb235)); have n5_ := Aside0.mk ((by rw [hg]; exact Nat.ne_of_lt (blk_lt (g := gb234) (o := .cells #[.int .i64 a0_0, .int .i64 a0_1, .int .i64 a0_2, .int .i64 a0_3, .int .i64 a0_4, .int .i64 a0_5, .string a0_6, .slice A0_7 l0_7.length c0_7, .slice A0_8 l0_8.length c0_8] 25 (0, 0)) (by (with_reducible repeat (first | refine blk_drewN ?_ _ | refine blk_drew ?_ | refine blk_alloc ?_ _)); exact BK234.out)) : gb234 ≠ gb235)); have n6_ := Aside0.mk ((by rw [hg]; exact Nat.ne_of_gt (blk_lt (g := gb234) (o := .cells #[.int .i64 a0_0, .int .i64 a0_1, .int .i64 a0_2, .int .i64 a0_3, .int .i64 a0_4, .int .i64 a0_5, .string a0_6, .slice A0_7 l0_7.length c0_7, .slice A0_8 l0_8.length c0_8] 25 (0, 0)) (by (with_reducible repeat (first | refine blk_drewN ?_ _ | refine blk_drew ?_ | refine blk_alloc ?_ _)); exact BK234.out)) : gb235 ≠ gb234)); clear BK234; clear HB; have BK234 := n0_; have HB := n1_; have BK235 := n2_; have GW235 := n3_; have GE235 := n4_; have NB234_235 := n5_; have NB235_234 := n6_; clear n0_ n1_ n2_ n3_ n4_ n5_ n6_; clear hb hbox hg; have hnb40 := NB234_235.out; have hnc40 := NB235_234.out; have hcz41_0 : w39.cell? ⟨gb234, 0, none⟩ = some (.int .i64 a0_0) := (blk_cell BK234.out 0).trans rfl; have hcz41_1 : w39.cell? ⟨gb234, 1, none⟩ = some (.int .i64 a0_1) := (blk_cell BK234.out 1).trans rfl; have hcz41_2 : w39.cell? ⟨gb234, 2, none⟩ = some (.int .i64 a0_2) := (blk_cell BK234.out 2).trans rfl; have hcz41_3 : w39.cell? ⟨gb234, 3, none⟩ = some (.int .i64 a0_3) := (blk_cell BK234.out 3).trans rfl; have hcz41_4 : w39.cell? ⟨gb234, 4, none⟩ = some (.int .i64 a0_4) := (blk_cell BK234.out 4).trans rfl; have hcz41_5 : w39.cell? ⟨gb234, 5, none⟩ = some (.int .i64 a0_5) := (blk_cell BK234.out 5).trans rfl; have hcz41_6 : w39.cell? ⟨gb234, 6, none⟩ = some (.string a0_6) := (blk_cell BK234.out 6).trans rfl; have hcz41_7 : w39.cell? ⟨gb234, 7, none⟩ = some (.slice A0_7 l0_7.length c0_7) := (blk_cell BK234.out 7).trans rfl; have hcz41_8 : w39.cell? ⟨gb234, 8, none⟩ = some (.slice A0_8 l0_8.length c0_8) := (blk_cell BK234.out 8).trans rfl; have hfz41_0 := blk_frozen BK234.out 0; have hfz41_1 := blk_frozen BK234.out 1; have hfz41_2 := blk_frozen BK234.out 2; have hfz41_3 := blk_frozen BK234.out 3; have hfz41_4 := blk_frozen BK234.out 4; have hfz41_5 := blk_frozen BK234.out 5; have hfz41_6 := blk_frozen BK234.out 6; have hfz41_7 := blk_frozen BK234.out 7; have hfz41_8 := blk_frozen BK234.out 8; have hcz42_0 : w39.cell? ⟨gb235, 0, none⟩ = some (.int .i64 a1_0) := (blk_cell BK235.out 0).trans rfl; have hcz42_1 : w39.cell? ⟨gb235, 1, none⟩ = some (.int .i64 a1_1) := (blk_cell BK235.out 1).trans rfl; have hcz42_2 : w39.cell? ⟨gb235, 2, none⟩ = some (.int .i64 a1_2) := (blk_cell BK235.out 2).trans rfl; have hcz42_3 : w39.cell? ⟨gb235, 3, none⟩ = some (.int .i64 a1_3) := (blk_cell BK235.out 3).trans rfl; have hcz42_4 : w39.cell? ⟨gb235, 4, none⟩ = some (.int .i64 a1_4) := (blk_cell BK235.out 4).trans rfl; have hcz42_5 : w39.cell? ⟨gb235, 5, none⟩ = some (.int .i64 a1_5) := (blk_cell BK235.out 5).trans rfl; have hcz42_6 : w39.cell? ⟨gb235, 6, none⟩ = some (.string a1_6) := (blk_cell BK235.out 6).trans rfl; have hcz42_7 : w39.cell? ⟨gb235, 7, none⟩ = some (.slice A1_7 l1_7.length c1_7) := (blk_cell BK235.out 7).trans rfl; have hcz42_8 : w39.cell? ⟨gb235, 8, none⟩ = some (.slice A1_8 l1_8.length c1_8) := (blk_cell BK235.out 8).trans rfl; have hfz42_0 := blk_frozen BK235.out 0; have hfz42_1 := blk_frozen BK235.out 1; have hfz42_2 := blk_frozen BK235.out 2; have hfz42_3 := blk_frozen BK235.out 3; have hfz42_4 := blk_frozen BK235.out 4; have hfz42_5 := blk_frozen BK235.out 5; have hfz42_6 := blk_frozen BK235.out 6; have hfz42_7 := blk_frozen BK235.out 7; have hfz42_8 := blk_frozen BK235.out 8))
     go_ret
     exact ⟨by first | rfl | (simp [errW_none, errW_some] <;> rfl) | (simp [*, errW_none, errW_some] <;> rfl), by repeat (first | (with_reducible first | exact HB.out | apply below_alloc | apply pw_below_drewN | apply below_drew1 | refine below_set ?_ GE234.out | refine below_set ?_ GE235.out) | exact HB.out)⟩
   ·rw [if_neg c5] at H
    have c5b0 : (a0_2 == a1_2) = false := beq_eq_false_iff_ne.mpr c5
    have c5b1 : (a0_2 != a1_2) = true := bne_iff_ne.mpr c5
    obtain rfl := Option.some.inj H
    go_enter Try.func15, Try.ntmps15
    go_wp2_with (first | ((with_reducible refine gate_dst (N := 2) rfl ?_); refine box_event ?hg (N := 2) ?hd (cs := #[.int .i64 a0_0, .int .i64 a0_1, .int .i64 a0_2, .int .i64 a0_3, .int .i64 a0_4, .int .i64 a0_5, .string a0_6, .slice A0_7 l0_7.length c0_7, .slice A0_8 l0_8.length c0_8]) (t := 25) ?hr ?_; (case hd => rfl); (case hg => rfl); (case hr => first | (go_simp; done) | (go_simp; rfl)); intro gb234 hg w43 hbox hb; have n0_ := Aside0.mk (below_step (by repeat (first | (with_reducible first | exact HB.out | apply below_alloc | apply pw_below_drewN | apply below_drew1) | exact HB.out)) hb); have n1_ := Aside0.mk (hbox); have n2_ := Aside0.mk ((by rw [hg]; exact (below_size (by repeat (first | (with_reducible first | exact HB.out | apply below_alloc | apply pw_below_drewN | apply below_drew1) | exact HB.out))) : w.heap.size ≤ gb234)); have n3_ := Aside0.mk ((by rw [hg]; exact (below_size (by repeat (first | (with_reducible first | exact HB.out | apply below_alloc | apply pw_below_drewN | apply below_drew1) | exact HB.out))) : w.heap.size ≤ gb234)); clear HB; have HB := n0_; have BK234 := n1_; have GW234 := n2_; have GE234 := n3_; clear n0_ n1_ n2_ n3_; clear hb hbox hg) | ((with_reducible refine gate_dst (N := 3) rfl ?_); refine box_event ?hg (N := 3) ?hd (cs := #[.int .i64 a1_0, .int .i64 a1_1, .int .i64 a1_2, .int .i64 a1_3, .int .i64 a1_4, .int .i64 a1_5, .string a1_6, .slice A1_7 l1_7.length c1_7, .slice A1_8 l1_8.length c1_8]) (t := 25) ?hr ?_; (case hd => rfl); (case hg => rfl); (case hr => first | (go_simp; done) | (go_simp; rfl)); intro gb235 hg w44 hbox hb; have n0_ := Aside0.mk (blk_below (g := gb234) (o := .cells #[.int .i64 a0_0, .int .i64 a0_1, .int .i64 a0_2, .int .i64 a0_3, .int .i64 a0_4, .int .i64 a0_5, .string a0_6, .slice A0_7 l0_7.length c0_7, .slice A0_8 l0_8.length c0_8] 25 (0, 0)) (by (with_reducible repeat (first | refine blk_drewN ?_ _ | refine blk_drew ?_ | refine blk_alloc ?_ _)); exact BK234.out) hb); have n1_ := Aside0.mk (below_step (by repeat (first | (with_reducible first | exact HB.out | apply below_alloc | apply pw_below_drewN | apply below_drew1 | refine below_set ?_ GE234.out) | exact HB.out)) hb); have n2_ := Aside0.mk (hbox); have n3_ := Aside0.mk ((by rw [hg]; exact (below_size (by repeat (first | (with_reducible first | exact HB.out | apply below_alloc | apply pw_below_drewN | apply below_drew1 | refine below_set ?_ GE234.out) | exact HB.out))) : w.heap.size ≤ gb235)); have n4_ := Aside0.mk ((by rw [hg]; exact (below_size (by repeat (first | (with_reducible first | exact HB.out | apply below_alloc | apply pw_below_drewN | apply below_drew1 | refine below_set ?_ GE234.out) | exact HB.out))) : w.heap.size ≤ gb235)); have n5_ := Aside0.mk ((by rw [hg]; exact Nat.ne_of_lt (blk_lt (g := gb234) (o := .cells #[.int .i64 a0_0, .int .i64 a0_1, .int .i64 a0_2, .int .i64 a0_3, .int .i64 a0_4, .int .i64 a0_5, .string a0_6, .slice A0_7 l0_7.length c0_7, .slice A0_8 l0_8.length c0_8] 25 (0, 0)) (by (with_reducible repeat (first | refine blk_drewN ?_ _ | refine blk_drew ?_ | refine blk_alloc ?_ _)); exact BK234.out)) : gb234 ≠ gb235)); have n6_ := Aside0.mk ((by rw [hg]; exact Nat.ne_of_gt (blk_lt (g := gb234) (o := .cells #[.int .i64 a0_0, .int .i64 a0_1, .int .i64 a0_2, .int .i64 a0_3, .int .i64 a0_4, .int .i64 a0_5, .string a0_6, .slice A0_7 l0_7.length c0_7, .slice A0_8 l0_8.length c0_8] 25 (0, 0)) (by (with_reducible repeat (first | refine blk_drewN ?_ _ | refine blk_drew ?_ | refine blk_alloc ?_ _)); exact BK234.out)) : gb235 ≠ gb234)); clear BK234; clear HB; have BK234 := n0_; have HB := n1_; have BK235 := n2_; have GW235 := n3_; have GE235 := n4_; have NB234_235 := n5_; have NB235_234 := n6_; clear n0_ n1_ n2_ n3_ n4_ n5_ n6_; clear hb hbox hg; have hnb45 := NB234_235.out; have hnc45 := NB235_234.out; have hcz46_0 : w44.cell? ⟨gb234, 0, none⟩ = some (.int .i64 a0_0) := (blk_cell BK234.out 0).trans rfl; have hcz46_1 : w44.cell? ⟨gb234, 1, none⟩ = some (.int .i64 a0_1) := (blk_cell BK234.out 1).trans rfl; have hcz46_2 : w44.cell? ⟨gb234, 2, none⟩ = some (.int .i64 a0_2) := (blk_cell BK234.out 2).trans rfl; have hcz46_3 : w44.cell? ⟨gb234, 3, none⟩ = some (.int .i64 a0_3) := (blk_cell BK234.out 3).trans rfl; have hcz46_4 : w44.cell? ⟨gb234, 4, none⟩ = some (.int .i64 a0_4) := (blk_cell BK234.out 4).trans rfl; have hcz46_5 : w44.cell? ⟨gb234, 5, none⟩ = some (.int .i64 a0_5) := (blk_cell BK234.out 5).trans rfl; have hcz46_6 : w44.cell? ⟨gb234, 6, none⟩ = some (.string a0_6) := (blk_cell BK234.out 6).trans rfl; have hcz46_7 : w44.cell? ⟨gb234, 7, none⟩ = some (.slice A0_7 l0_7.length c0_7) := (blk_cell BK234.out 7).trans rfl; have hcz46_8 : w44.cell? ⟨gb234, 8, none⟩ = some (.slice A0_8 l0_8.length c0_8) := (blk_cell BK234.out 8).trans rfl; have hfz46_0 := blk_frozen BK234.out 0; have hfz46_1 := blk_frozen BK234.out 1; have hfz46_2 := blk_frozen BK234.out 2; have hfz46_3 := blk_frozen BK234.out 3; have hfz46_4 := blk_frozen BK234.out 4; have hfz46_5 := blk_frozen BK234.out 5; have hfz46_6 := blk_frozen BK234.out 6; have hfz46_7 := blk_frozen BK234.out 7; have hfz46_8 := blk_frozen BK234.out 8; have hcz47_0 : w44.cell? ⟨gb235, 0, none⟩ = some (.int .i64 a1_0) := (blk_cell BK235.out 0).trans rfl; have hcz47_1 : w44.cell? ⟨gb235, 1, none⟩ = some (.int .i64 a1_1) := (blk_cell BK235.out 1).trans rfl; have hcz47_2 : w44.cell? ⟨gb235, 2, none⟩ = some (.int .i64 a1_2) := (blk_cell BK235.out 2).trans rfl; have hcz47_3 : w44.cell? ⟨gb235, 3, none⟩ = some (.int .i64 a1_3) := (blk_cell BK235.out 3).trans rfl; have hcz47_4 : w44.cell? ⟨gb235, 4, none⟩ = some (.int .i64 a1_4) := (blk_cell BK235.out 4).trans rfl; have hcz47_5 : w44.cell? ⟨gb235, 5, none⟩ = some (.int .i64 a1_5) := (blk_cell BK235.out 5).trans rfl; have hcz47_6 : w44.cell? ⟨gb235, 6, none⟩ = some (.string a1_6) := (blk_cell BK235.out 6).trans rfl; have hcz47_7 : w44.cell? ⟨gb235, 7, none⟩ = some (.slice A1_7 l1_7.length c1_7) := (blk_cell BK235.out 7).trans rfl; have hcz47_8 : w44.cell? ⟨gb235, 8, none⟩ = some (.slice A1_8 l1_8.length c1_8) := (blk_cell BK235.out 8).trans rfl; have hfz47_0 := blk_frozen BK235.out 0; have hfz47_1 := blk_frozen BK235.out 1; have hfz47_2 := blk_frozen BK235.out 2; have hfz47_3 := blk_frozen BK235.out 3; have hfz47_4 := blk_frozen BK235.out 4; have hfz47_5 := blk_frozen BK235.out 5; have hfz47_6 := blk_frozen BK235.out 6; have hfz47_7 := blk_frozen BK235.out 7; have hfz47_8 := blk_frozen BK235.out 8))
    go_ret
    exact ⟨by first | rfl | (simp [errW_none, errW_some] <;> rfl) | (simp [*, errW_none, errW_some] <;> rfl), by repeat (first | (with_reducible first | exact HB.out | apply below_alloc | apply pw_below_drewN | apply below_drew1 | refine below_set ?_ GE234.out | refine below_set ?_ GE235.out) | exact HB.out)⟩
  ·rw [if_neg c4] at H
   have c4b0 : (a0_1 == a1_1) = false := beq_eq_false_iff_ne.mpr c4
   have c4b1 : (a0_1 != a1_1) = true := bne_iff_ne.mpr c4
   obtain rfl := Option.some.inj H
   go_enter Try.func15, Try.ntmps15
   go_wp2_with (first | ((with_reducible refine gate_dst (N := 2) rfl ?_); refine box_event ?hg (N := 2) ?hd (cs := #[.int .i64 a0_0, .int .i64 a0_1, .int .i64 a0_2, .int .i64 a0_3, .int .i64 a0_4, .int .i64 a0_5, .string a0_6, .slice A0_7 l0_7.length c0_7, .slice A0_8 l0_8.length c0_8]) (t := 25) ?hr ?_; (case hd => rfl); (case hg => rfl); (case hr => first | (go_simp; done) | (go_simp; rfl)); intro gb234 hg w48 hbox hb; have n0_ := Aside0.mk (below_step (by repeat (first | (with_reducible first | exact HB.out | apply below_alloc | apply pw_below_drewN | apply below_drew1) | exact HB.out)) hb); have n1_ := Aside0.mk (hbox); have n2_ := Aside0.mk ((by rw [hg]; exact (below_size (by repeat (first | (with_reducible first | exact HB.out | apply below_alloc | apply pw_below_drewN | apply below_drew1) | exact HB.out))) : w.heap.size ≤ gb234)); have n3_ := Aside0.mk ((by rw [hg]; exact (below_size (by repeat (first | (with_reducible first | exact HB.out | apply below_alloc | apply pw_below_drewN | apply below_drew1) | exact HB.out))) : w.heap.size ≤ gb234)); clear HB; have HB := n0_; have BK234 := n1_; have GW234 := n2_; have GE234 := n3_; clear n0_ n1_ n2_ n3_; clear hb hbox hg) | ((with_reducible refine gate_dst (N := 3) rfl ?_); refine box_event ?hg (N := 3) ?hd (cs := #[.int .i64 a1_0, .int .i64 a1_1, .int .i64 a1_2, .int .i64 a1_3, .int .i64 a1_4, .int .i64 a1_5, .string a1_6, .slice A1_7 l1_7.length c1_7, .slice A1_8 l1_8.length c1_8]) (t := 25) ?hr ?_; (case hd => rfl); (case hg => rfl); (case hr => first | (go_simp; done) | (go_simp; rfl)); intro gb235 hg w49 hbox hb; have n0_ := Aside0.mk (blk_below (g := gb234) (o := .cells #[.int .i64 a0_0, .int .i64 a0_1, .int .i64 a0_2, .int .i64 a0_3, .int .i64 a0_4, .int .i64 a0_5, .string a0_6, .slice A0_7 l0_7.length c0_7, .slice A0_8 l0_8.length c0_8] 25 (0, 0)) (by (with_reducible repeat (first | refine blk_drewN ?_ _ | refine blk_drew ?_ | refine blk_alloc ?_ _)); exact BK234.out) hb); have n1_ := Aside0.mk (below_step (by repeat (first | (with_reducible first | exact HB.out | apply below_alloc | apply pw_below_drewN | apply below_drew1 | refine below_set ?_ GE234.out) | exact HB.out)) hb); have n2_ := Aside0.mk (hbox); have n3_ := Aside0.mk ((by rw [hg]; exact (below_size (by repeat (first | (with_reducible first | exact HB.out | apply below_alloc | apply pw_below_drewN | apply below_drew1 | refine below_set ?_ GE234.out) | exact HB.out))) : w.heap.size ≤ gb235)); have n4_ := Aside0.mk ((by rw [hg]; exact (below_size (by repeat (first | (with_reducible first | exact HB.out | apply below_alloc | apply pw_below_drewN | apply below_drew1 | refine below_set ?_ GE234.out) | exact HB.out))) : w.heap.size ≤ gb235)); have n5_ := Aside0.mk ((by rw [hg]; exact Nat.ne_of_lt (blk_lt (g := gb234) (o := .cells #[.int .i64 a0_0, .int .i64 a0_1, .int .i64 a0_2, .int .i64 a0_3, .int .i64 a0_4, .int .i64 a0_5, .string a0_6, .slice A0_7 l0_7.length c0_7, .slice A0_8 l0_8.length c0_8] 25 (0, 0)) (by (with_reducible repeat (first | refine blk_drewN ?_ _ | refine blk_drew ?_ | refine blk_alloc ?_ _)); exact BK234.out)) : gb234 ≠ gb235)); have n6_ := Aside0.mk ((by rw [hg]; exact Nat.ne_of_gt (blk_lt (g := gb234) (o := .cells #[.int .i64 a0_0, .int .i64 a0_1, .int .i64 a0_2, .int .i64 a0_3, .int .i64 a0_4, .int .i64 a0_5, .string a0_6, .slice A0_7 l0_7.length c0_7, .slice A0_8 l0_8.length c0_8] 25 (0, 0)) (by (with_reducible repeat (first | refine blk_drewN ?_ _ | refine blk_drew ?_ | refine blk_alloc ?_ _)); exact BK234.out)) : gb235 ≠ gb234)); clear BK234; clear HB; have BK234 := n0_; have HB := n1_; have BK235 := n2_; have GW235 := n3_; have GE235 := n4_; have NB234_235 := n5_; have NB235_234 := n6_; clear n0_ n1_ n2_ n3_ n4_ n5_ n6_; clear hb hbox hg; have hnb50 := NB234_235.out; have hnc50 := NB235_234.out; have hcz51_0 : w49.cell? ⟨gb234, 0, none⟩ = some (.int .i64 a0_0) := (blk_cell BK234.out 0).trans rfl; have hcz51_1 : w49.cell? ⟨gb234, 1, none⟩ = some (.int .i64 a0_1) := (blk_cell BK234.out 1).trans rfl; have hcz51_2 : w49.cell? ⟨gb234, 2, none⟩ = some (.int .i64 a0_2) := (blk_cell BK234.out 2).trans rfl; have hcz51_3 : w49.cell? ⟨gb234, 3, none⟩ = some (.int .i64 a0_3) := (blk_cell BK234.out 3).trans rfl; have hcz51_4 : w49.cell? ⟨gb234, 4, none⟩ = some (.int .i64 a0_4) := (blk_cell BK234.out 4).trans rfl; have hcz51_5 : w49.cell? ⟨gb234, 5, none⟩ = some (.int .i64 a0_5) := (blk_cell BK234.out 5).trans rfl; have hcz51_6 : w49.cell? ⟨gb234, 6, none⟩ = some (.string a0_6) := (blk_cell BK234.out 6).trans rfl; have hcz51_7 : w49.cell? ⟨gb234, 7, none⟩ = some (.slice A0_7 l0_7.length c0_7) := (blk_cell BK234.out 7).trans rfl; have hcz51_8 : w49.cell? ⟨gb234, 8, none⟩ = some (.slice A0_8 l0_8.length c0_8) := (blk_cell BK234.out 8).trans rfl; have hfz51_0 := blk_frozen BK234.out 0; have hfz51_1 := blk_frozen BK234.out 1; have hfz51_2 := blk_frozen BK234.out 2; have hfz51_3 := blk_frozen BK234.out 3; have hfz51_4 := blk_frozen BK234.out 4; have hfz51_5 := blk_frozen BK234.out 5; have hfz51_6 := blk_frozen BK234.out 6; have hfz51_7 := blk_frozen BK234.out 7; have hfz51_8 := blk_frozen BK234.out 8; have hcz52_0 : w49.cell? ⟨gb235, 0, none⟩ = some (.int .i64 a1_0) := (blk_cell BK235.out 0).trans rfl; have hcz52_1 : w49.cell? ⟨gb235, 1, none⟩ = some (.int .i64 a1_1) := (blk_cell BK235.out 1).trans rfl; have hcz52_2 : w49.cell? ⟨gb235, 2, none⟩ = some (.int .i64 a1_2) := (blk_cell BK235.out 2).trans rfl; have hcz52_3 : w49.cell? ⟨gb235, 3, none⟩ = some (.int .i64 a1_3) := (blk_cell BK235.out 3).trans rfl; have hcz52_4 : w49.cell? ⟨gb235, 4, none⟩ = some (.int .i64 a1_4) := (blk_cell BK235.out 4).trans rfl; have hcz52_5 : w49.cell? ⟨gb235, 5, none⟩ = some (.int .i64 a1_5) := (blk_cell BK235.out 5).trans rfl; have hcz52_6 : w49.cell? ⟨gb235, 6, none⟩ = some (.string a1_6) := (blk_cell BK235.out 6).trans rfl; have hcz52_7 : w49.cell? ⟨gb235, 7, none⟩ = some (.slice A1_7 l1_7.length c1_7) := (blk_cell BK235.out 7).trans rfl; have hcz52_8 : w49.cell? ⟨gb235, 8, none⟩ = some (.slice A1_8 l1_8.length c1_8) := (blk_cell BK235.out 8).trans rfl; have hfz52_0 := blk_frozen BK235.out 0; have hfz52_1 := blk_frozen BK235.out 1; have hfz52_2 := blk_frozen BK235.out 2; have hfz52_3 := blk_frozen BK235.out 3; have hfz52_4 := blk_frozen BK235.out 4; have hfz52_5 := blk_frozen BK235.out 5; have hfz52_6 := blk_frozen BK235.out 6; have hfz52_7 := blk_frozen BK235.out 7; have hfz52_8 := blk_frozen BK235.out 8))
   go_ret
   exact ⟨by first | rfl | (simp [errW_none, errW_some] <;> rfl) | (simp [*, errW_none, errW_some] <;> rfl), by repeat (first | (with_reducible first | exact HB.out | apply below_alloc | apply pw_below_drewN | apply below_drew1 | refine below_set ?_ GE234.out | refine below_set ?_ GE235.out) | exact HB.out)⟩
 ·rw [if_neg c3] at H
  have c3b0 : (a0_0 == a1_0) = false := beq_eq_false_iff_ne.mpr c3
  have c3b1 : (a0_0 != a1_0) = true := bne_iff_ne.mpr c3
  obtain rfl := Option.some.inj H
  go_enter Try.func15, Try.ntmps15
  go_wp2_with (first | ((with_reducible refine gate_dst (N := 2) rfl ?_); refine box_event ?hg (N := 2) ?hd (cs := #[.int .i64 a0_0, .int .i64 a0_1, .int .i64 a0_2, .int .i64 a0_3, .int .i64 a0_4, .int .i64 a0_5, .string a0_6, .slice A0_7 l0_7.length c0_7, .slice A0_8 l0_8.length c0_8]) (t := 25) ?hr ?_; (case hd => rfl); (case hg => rfl); (case hr => first | (go_simp; done) | (go_simp; rfl)); intro gb234 hg w53 hbox hb; have n0_ := Aside0.mk (below_step (by repeat (first | (with_reducible first | exact HB.out | apply below_alloc | apply pw_below_drewN | apply below_drew1) | exact HB.out)) hb); have n1_ := Aside0.mk (hbox); have n2_ := Aside0.mk ((by rw [hg]; exact (below_size (by repeat (first | (with_reducible first | exact HB.out | apply below_alloc | apply pw_below_drewN | apply below_drew1) | exact HB.out))) : w.heap.size ≤ gb234)); have n3_ := Aside0.mk ((by rw [hg]; exact (below_size (by repeat (first | (with_reducible first | exact HB.out | apply below_alloc | apply pw_below_drewN | apply below_drew1) | exact HB.out))) : w.heap.size ≤ gb234)); clear HB; have HB := n0_; have BK234 := n1_; have GW234 := n2_; have GE234 := n3_; clear n0_ n1_ n2_ n3_; clear hb hbox hg) | ((with_reducible refine gate_dst (N := 3) rfl ?_); refine box_event ?hg (N := 3) ?hd (cs := #[.int .i64 a1_0, .int .i64 a1_1, .int .i64 a1_2, .int .i64 a1_3, .int .i64 a1_4, .int .i64 a1_5, .string a1_6, .slice A1_7 l1_7.length c1_7, .slice A1_8 l1_8.length c1_8]) (t := 25) ?hr ?_; (case hd => rfl); (case hg => rfl); (case hr => first | (go_simp; done) | (go_simp; rfl)); intro gb235 hg w54 hbox hb; have n0_ := Aside0.mk (blk_below (g := gb234) (o := .cells #[.int .i64 a0_0, .int .i64 a0_1, .int .i64 a0_2, .int .i64 a0_3, .int .i64 a0_4, .int .i64 a0_5, .string a0_6, .slice A0_7 l0_7.length c0_7, .slice A0_8 l0_8.length c0_8] 25 (0, 0)) (by (with_reducible repeat (first | refine blk_drewN ?_ _ | refine blk_drew ?_ | refine blk_alloc ?_ _)); exact BK234.out) hb); have n1_ := Aside0.mk (below_step (by repeat (first | (with_reducible first | exact HB.out | apply below_alloc | apply pw_below_drewN | apply below_drew1 | refine below_set ?_ GE234.out) | exact HB.out)) hb); have n2_ := Aside0.mk (hbox); have n3_ := Aside0.mk ((by rw [hg]; exact (below_size (by repeat (first | (with_reducible first | exact HB.out | apply below_alloc | apply pw_below_drewN | apply below_drew1 | refine below_set ?_ GE234.out) | exact HB.out))) : w.heap.size ≤ gb235)); have n4_ := Aside0.mk ((by rw [hg]; exact (below_size (by repeat (first | (with_reducible first | exact HB.out | apply below_alloc | apply pw_below_drewN | apply below_drew1 | refine below_set ?_ GE234.out) | exact HB.out))) : w.heap.size ≤ gb235)); have n5_ := Aside0.mk ((by rw [hg]; exact Nat.ne_of_lt (blk_lt (g := gb234) (o := .cells #[.int .i64 a0_0, .int .i64 a0_1, .int .i64 a0_2, .int .i64 a0_3, .int .i64 a0_4, .int .i64 a0_5, .string a0_6, .slice A0_7 l0_7.length c0_7, .slice A0_8 l0_8.length c0_8] 25 (0, 0)) (by (with_reducible repeat (first | refine blk_drewN ?_ _ | refine blk_drew ?_ | refine blk_alloc ?_ _)); exact BK234.out)) : gb234 ≠ gb235)); have n6_ := Aside0.mk ((by rw [hg]; exact Nat.ne_of_gt (blk_lt (g := gb234) (o := .cells #[.int .i64 a0_0, .int .i64 a0_1, .int .i64 a0_2, .int .i64 a0_3, .int .i64 a0_4, .int .i64 a0_5, .string a0_6, .slice A0_7 l0_7.length c0_7, .slice A0_8 l0_8.length c0_8] 25 (0, 0)) (by (with_reducible repeat (first | refine blk_drewN ?_ _ | refine blk_drew ?_ | refine blk_alloc ?_ _)); exact BK234.out)) : gb235 ≠ gb234)); clear BK234; clear HB; have BK234 := n0_; have HB := n1_; have BK235 := n2_; have GW235 := n3_; have GE235 := n4_; have NB234_235 := n5_; have NB235_234 := n6_; clear n0_ n1_ n2_ n3_ n4_ n5_ n6_; clear hb hbox hg; have hnb55 := NB234_235.out; have hnc55 := NB235_234.out; have hcz56_0 : w54.cell? ⟨gb234, 0, none⟩ = some (.int .i64 a0_0) := (blk_cell BK234.out 0).trans rfl; have hcz56_1 : w54.cell? ⟨gb234, 1, none⟩ = some (.int .i64 a0_1) := (blk_cell BK234.out 1).trans rfl; have hcz56_2 : w54.cell? ⟨gb234, 2, none⟩ = some (.int .i64 a0_2) := (blk_cell BK234.out 2).trans rfl; have hcz56_3 : w54.cell? ⟨gb234, 3, none⟩ = some (.int .i64 a0_3) := (blk_cell BK234.out 3).trans rfl; have hcz56_4 : w54.cell? ⟨gb234, 4, none⟩ = some (.int .i64 a0_4) := (blk_cell BK234.out 4).trans rfl; have hcz56_5 : w54.cell? ⟨gb234, 5, none⟩ = some (.int .i64 a0_5) := (blk_cell BK234.out 5).trans rfl; have hcz56_6 : w54.cell? ⟨gb234, 6, none⟩ = some (.string a0_6) := (blk_cell BK234.out 6).trans rfl; have hcz56_7 : w54.cell? ⟨gb234, 7, none⟩ = some (.slice A0_7 l0_7.length c0_7) := (blk_cell BK234.out 7).trans rfl; have hcz56_8 : w54.cell? ⟨gb234, 8, none⟩ = some (.slice A0_8 l0_8.length c0_8) := (blk_cell BK234.out 8).trans rfl; have hfz56_0 := blk_frozen BK234.out 0; have hfz56_1 := blk_frozen BK234.out 1; have hfz56_2 := blk_frozen BK234.out 2; have hfz56_3 := blk_frozen BK234.out 3; have hfz56_4 := blk_frozen BK234.out 4; have hfz56_5 := blk_frozen BK234.out 5; have hfz56_6 := blk_frozen BK234.out 6; have hfz56_7 := blk_frozen BK234.out 7; have hfz56_8 := blk_frozen BK234.out 8; have hcz57_0 : w54.cell? ⟨gb235, 0, none⟩ = some (.int .i64 a1_0) := (blk_cell BK235.out 0).trans rfl; have hcz57_1 : w54.cell? ⟨gb235, 1, none⟩ = some (.int .i64 a1_1) := (blk_cell BK235.out 1).trans rfl; have hcz57_2 : w54.cell? ⟨gb235, 2, none⟩ = some (.int .i64 a1_2) := (blk_cell BK235.out 2).trans rfl; have hcz57_3 : w54.cell? ⟨gb235, 3, none⟩ = some (.int .i64 a1_3) := (blk_cell BK235.out 3).trans rfl; have hcz57_4 : w54.cell? ⟨gb235, 4, none⟩ = some (.int .i64 a1_4) := (blk_cell BK235.out 4).trans rfl; have hcz57_5 : w54.cell? ⟨gb235, 5, none⟩ = some (.int .i64 a1_5) := (blk_cell BK235.out 5).trans rfl; have hcz57_6 : w54.cell? ⟨gb235, 6, none⟩ = some (.string a1_6) := (blk_cell BK235.out 6).trans rfl; have hcz57_7 : w54.cell? ⟨gb235, 7, none⟩ = some (.slice A1_7 l1_7.length c1_7) := (blk_cell BK235.out 7).trans rfl; have hcz57_8 : w54.cell? ⟨gb235, 8, none⟩ = some (.slice A1_8 l1_8.length c1_8) := (blk_cell BK235.out 8).trans rfl; have hfz57_0 := blk_frozen BK235.out 0; have hfz57_1 := blk_frozen BK235.out 1; have hfz57_2 := blk_frozen BK235.out 2; have hfz57_3 := blk_frozen BK235.out 3; have hfz57_4 := blk_frozen BK235.out 4; have hfz57_5 := blk_frozen BK235.out 5; have hfz57_6 := blk_frozen BK235.out 6; have hfz57_7 := blk_frozen BK235.out 7; have hfz57_8 := blk_frozen BK235.out 8))
  go_ret
  exact ⟨by first | rfl | (simp [errW_none, errW_some] <;> rfl) | (simp [*, errW_none, errW_some] <;> rfl), by repeat (first | (with_reducible first | exact HB.out | apply below_alloc | apply pw_below_drewN | apply below_drew1 | refine below_set ?_ GE234.out | refine below_set ?_ GE235.out) | exact HB.out)⟩

end Go.Proofs.Ytelgpkbnahgdoaa.Al
