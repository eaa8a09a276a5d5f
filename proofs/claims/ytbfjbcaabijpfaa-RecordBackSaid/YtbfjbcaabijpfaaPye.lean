/- What the laws stand on, in one text: functions of the program by their contracts, the plain mathematics behind them, and such of the printed words as these use. It began as the kit's print and own texts; put together by a program (trim.py). -/
import Derived.Test.YtbfjbcaabijpfaaPyd
import Derived.Deep.RegionLaw
import Derived.Deep.RegionHeld3
import Derived.IntWalk
import Derived.Test.YtbfjbcaabijpfaaRows
import Derived.ChangeArms
import Derived.ChangeShapes
import Derived.SizedLaws

namespace Go.Proofs.Ytbfjbcaabijpfaa.Al
open Go.RowKit Go.Proofs.Ytbfjbcaabijpfaa.Base Go.Proofs.YtbfjbcaabijpfaaW.PrintWords Go.Proofs.YtbfjbcaabijpfaaW.PrintLast Go.Proofs.YtbfjbcaabijpfaaW.PrintMore
set_option linter.unusedVariables false
set_option linter.unusedSimpArgs false
namespace RD
abbrev RLet := Int × Int × Int × Int × ByteArray × ByteArray × Bool × List ByteArray × List S50 × Int
def noLet : RLet := (0, 0, 0, 0, ⟨#[]⟩, ⟨#[]⟩, false, [], [], 80)
/-- The result's block gq, the pack's block gp. -/
structure QR (w0 W : World) (gq gp : Nat) (xs : List Int) (ts : List ByteArray) (vN vT : Value) : Prop where
 bq : W.heap[gq]? = some (.cells #[.int .i64 0, .int .i64 0, .int .i64 0, .int .i64 0, .string (⟨#[]⟩ : ByteArray), .string (⟨#[]⟩ : ByteArray), .bool false, .slice none 0 0, .slice none 0 0] 25 (0, 0))
 bp : W.heap[gp]? = some (.cells #[vN, vT] 48 (0, 0))
 geq : w0.heap.size ≤ gq
 gep : w0.heap.size ≤ gp
 ns : (Kd.int .i64).R 3 W w0.heap.size (fun _ => True) vN xs
 ts : Kd.string.R 9 W w0.heap.size (fun _ => True) vT ts
 bel : Below w0.heap.size w0 W
section
variable {w0 W : World} {gq gp : Nat} {xs : List Int} {ts : List ByteArray} {vN vT : Value}
theorem QR.below {W1 : World} (h : QR w0 W gq gp xs ts vN vT) (hb : Below W.heap.size W W1) : QR w0 W1 gq gp xs ts vN vT where
 bq := blk_below h.bq hb
 bp := blk_below h.bp hb
 geq := h.geq
 gep := h.gep
 ns := Kd.R_below h.ns hb
 ts := Kd.R_below h.ts hb
 bel := below_step h.bel hb
theorem QR.alloc (h : QR w0 W gq gp xs ts vN vT) (o : Obj) : QR w0 (W.alloc o) gq gp xs ts vN vT := h.below (below_alloc (Below.refl _ _) o)
theorem QR.drewN (h : QR w0 W gq gp xs ts vN vT) (m : Nat) : QR w0 (W.drewN m) gq gp xs ts vN vT := h.below (pw_below_drewN (Below.refl _ _) m)
theorem QR.drew (h : QR w0 W gq gp xs ts vN vT) : QR w0 W.drew gq gp xs ts vN vT := h.below (below_drew (Below.refl _ _))
end
/-- The empty letter and 70 come back. -/
def NoLetE (w : World) (e : Ending) (w' : World) : Prop := e = .returned (.tuple #[.agg #[.int .i64 0, .int .i64 0, .int .i64 0, .int .i64 0, .string (⟨#[]⟩ : ByteArray), .string (⟨#[]⟩ : ByteArray), .bool false, .slice none 0 0, .slice none 0 0], .int .i64 80]) ∧ Below w.heap.size w w'
theorem qr_of {w0 w2 w3 : World} {gq gp : Nat} {xs : List Int} {ts : List ByteArray} {vN vT : Value} (geq : w0.heap.size ≤ gq) (bq : w2.heap[gq]? = some (.cells #[.int .i64 0, .int .i64 0, .int .i64 0, .int .i64 0, .string (⟨#[]⟩ : ByteArray), .string (⟨#[]⟩ : ByteArray), .bool false, .slice none 0 0, .slice none 0 0] 25 (0, 0))) (bp : w3.heap[gp]? = some (.cells #[.slice none 0 0, .slice none 0 0] 48 (0, 0))) (hgp : gp = w2.heap.size) (hns : (Kd.int .i64).R 3 w2 w0.heap.size (fun _ => True) vN xs) (hts : Kd.string.R 9 w2 w0.heap.size (fun _ => True) vT ts) (hb : Below w0.heap.size w0 w2) (hb3 : Below w2.heap.size w2 w3) :
  QR w0 ((w3.setCell ⟨gp, 0, none⟩ vN).setCell ⟨gp, 1, none⟩ vT) gq gp xs ts vN vT := by
 have ge : w0.heap.size ≤ gp := by have := hb.size; omega
 have ne : gq ≠ gp := by have := blk_lt bq; omega
 have bp1 := blk_set bp 0 vN
 exact ⟨blk_far (blk_far (blk_below bq hb3) (p := ⟨gp, 0, none⟩) ne vN) (p := ⟨gp, 1, none⟩) ne vT, by simpa using blk_set bp1 1 vT, geq, ge, Kd.R_set (Kd.R_set (Kd.R_below hns hb3) bp (by decide) 0 vN) bp1 (by decide) 1 vT, Kd.R_set (Kd.R_set (Kd.R_below hts hb3) bp (by decide) 0 vN) bp1 (by decide) 1 vT, below_set (below_set (below_step hb hb3) ge) ge⟩
theorem set9 {w : World} {g t : Nat} {z0 z1 z2 z3 z4 z5 z6 z7 z8 c0 c1 c2 c3 c4 c5 c6 c7 c8 : Value} (h : w.heap[g]? = some (.cells #[z0, z1, z2, z3, z4, z5, z6, z7, z8] t (0, 0))) : (((((((((w.setCell ⟨g, 0, none⟩ c0).setCell ⟨g, 1, none⟩ c1).setCell ⟨g, 2, none⟩ c2).setCell ⟨g, 3, none⟩ c3).setCell ⟨g, 4, none⟩ c4).setCell ⟨g, 5, none⟩ c5).setCell ⟨g, 6, none⟩ c6).setCell ⟨g, 7, none⟩ c7).setCell ⟨g, 8, none⟩ c8).heap[g]? = some (.cells #[c0, c1, c2, c3, c4, c5, c6, c7, c8] t (0, 0)) := by
 have := blk_set (blk_set (blk_set (blk_set (blk_set (blk_set (blk_set (blk_set (blk_set h 0 c0) 1 c1) 2 c2) 3 c3) 4 c4) 5 c5) 6 c6) 7 c7) 8 c8
 simpa using this
theorem below9 {w W : World} {g : Nat} {c0 c1 c2 c3 c4 c5 c6 c7 c8 : Value} (h : Below w.heap.size w W) (hg : w.heap.size ≤ g) : Below w.heap.size w (((((((((W.setCell ⟨g, 0, none⟩ c0).setCell ⟨g, 1, none⟩ c1).setCell ⟨g, 2, none⟩ c2).setCell ⟨g, 3, none⟩ c3).setCell ⟨g, 4, none⟩ c4).setCell ⟨g, 5, none⟩ c5).setCell ⟨g, 6, none⟩ c6).setCell ⟨g, 7, none⟩ c7).setCell ⟨g, 8, none⟩ c8) :=
 below_set (below_set (below_set (below_set (below_set (below_set (below_set (below_set (below_set h hg) hg) hg) hg) hg) hg) hg) hg) hg
theorem keep9 {W : World} {g : Nat} {c0 c1 c2 c3 c4 c5 c6 c7 c8 : Value} : KeepBut W (((((((((W.setCell ⟨g, 0, none⟩ c0).setCell ⟨g, 1, none⟩ c1).setCell ⟨g, 2, none⟩ c2).setCell ⟨g, 3, none⟩ c3).setCell ⟨g, 4, none⟩ c4).setCell ⟨g, 5, none⟩ c5).setCell ⟨g, 6, none⟩ c6).setCell ⟨g, 7, none⟩ c7).setCell ⟨g, 8, none⟩ c8) g none :=
 ((((((((((KeepBut.refl W g none).set_ 0 c0).set_ 1 c1).set_ 2 c2).set_ 3 c3).set_ 4 c4).set_ 5 c5).set_ 6 c6).set_ 7 c7).set_ 8 c8)
/-- The write that flags and texts tell, and all of them. -/
def wOf (flags : List Int) (rest : List ByteArray) (j : Nat) : S50 := ⟨rdOf ByteArray.empty rest (2 * (j : Int)), rdOf ByteArray.empty rest (2 * (j : Int) + 1), rd flags (j : Int) == 1⟩
def wsOf (flags : List Int) (rest : List ByteArray) (i : Nat) : List S50 := (List.range i).map (wOf flags rest)
theorem ws_succ (flags : List Int) (rest : List ByteArray) (i : Nat) : wsOf flags rest (i + 1) = wsOf flags rest i ++ [wOf flags rest i] := by simp [wsOf, List.range_succ]
theorem ws_len (flags : List Int) (rest : List ByteArray) (i : Nat) : (wsOf flags rest i).length = i := by simp [wsOf]
theorem QR.set {w0 W : World} {gq gp g : Nat} {xs : List Int} {ts : List ByteArray} {vN vT : Value} {cells : Array Value} (h : QR w0 W gq gp xs ts vN vT) (hb : W.heap[g]? = some (.cells cells 25 (0, 0))) (hg : w0.heap.size ≤ g) (hne : gq ≠ g) (hne' : gp ≠ g) (j : Nat) (u : Value) : QR w0 (W.setCell ⟨g, j, none⟩ u) gq gp xs ts vN vT :=
 ⟨blk_far h.bq (p := ⟨g, j, none⟩) hne u, blk_far h.bp (p := ⟨g, j, none⟩) hne' u, h.geq, h.gep, Kd.R_set h.ns hb (by decide) j u, Kd.R_set h.ts hb (by decide) j u, below_set h.bel hg⟩
theorem ncell {W : World} {base g c : Nat} {ns : List Int} (h : (Kd.int .i64).R 3 W base (fun _ => True) (.slice (some ⟨g, 0, none⟩) ns.length c) ns) (i : Nat) (hi : i < ns.length) : W.cell? ⟨g, i, none⟩ = some (.int .i64 (rd ns (i : Int))) := (Kd.R_cell (0 : Int) h (i : Int) (by omega) (by omega)).1
theorem tcell {W : World} {base g c : Nat} {ts : List ByteArray} (h : Kd.string.R 9 W base (fun _ => True) (.slice (some ⟨g, 0, none⟩) ts.length c) ts) (i : Nat) (hi : i < ts.length) : W.cell? ⟨g, i, none⟩ = some (.string (rdOf ByteArray.empty ts (i : Int))) := (Kd.R_cell ByteArray.empty h (i : Int) (by omega) (by omega)).1
theorem clone_len {A0 : Option Addr} {c0 n0 : Nat} {l0 : List ByteArray} {w : World} (h0 : n0 = l0.length) (hr0 : Kd.C Kd.string w A0 l0.length l0) (hc0 : l0.length ≤ c0) (hl : l0.length < 8796093022208) :
  Calls Try.prog 37 #[.slice A0 n0 c0] w fun e w' => ∃ v0_ : Value, e = .returned v0_ ∧ Kd.R Kd.string 9 w' w.heap.size (fun _ => True) v0_ l0 ∧ Below w.heap.size w w' := by
 subst h0
 exact slices_CloneT.calls A0 c0 l0 l0 w hr0 hc0 (if_pos hl)
theorem enc_len {k : Nat} {x0 x1 x2 x3 : Int} {x4 x5 : ByteArray} {x6 : Bool} {A7 : Option Addr} {c7 n7 : Nat} {l7 : List ByteArray} {A8 : Option Addr} {c8 : Nat} {l8 : List S50} {r1 : ByteArray} {r2 : Int} {w : World} (h7 : n7 = l7.length) (hr7 : Kd.C Kd.string w A7 l7.length l7) (hc7 : l7.length ≤ c7) (hr8 : Kd.C k50 w A8 l8.length l8) (hc8 : l8.length ≤ c8) (h : record_Encode.f k x0 x1 x2 x3 x4 x5 x6 l7 l8 = some (r1, r2)) :
  Calls Try.prog 9 #[.agg #[.int .i64 x0, .int .i64 x1, .int .i64 x2, .int .i64 x3, .string x4, .string x5, .bool x6, .slice A7 n7 c7, .slice A8 l8.length c8]] w fun e w' => e = .returned (.tuple #[.string r1, .int .i64 r2]) ∧ Below w.heap.size w w' := by
 subst h7
 exact record_Encode.calls k x0 x1 x2 x3 x4 x5 x6 A7 c7 l7 A8 c8 l8 r1 r2 w hr7 hc7 hr8 hc8 h
/-- A letter under way at block gl. -/
structure PL (w0 W : World) (gq gp gl : Nat) (ns : List Int) (ts : List ByteArray) (vN vT : Value) (x0 x1 x2 x3 : Int) (x4 x5 : ByteArray) (x6 : Bool) (ks : List ByteArray) (vK : Value) (ws : List S50) (vW : Value) : Prop where
 q : QR w0 W gq gp ns ts vN vT
 bl : W.heap[gl]? = some (.cells #[.int .i64 x0, .int .i64 x1, .int .i64 x2, .int .i64 x3, .string x4, .string x5, .bool x6, vK, vW] 25 (0, 0))
 gel : w0.heap.size ≤ gl
 nq : gq ≠ gl
 np : gp ≠ gl
 kr : Kd.string.R 9 W w0.heap.size (fun _ => True) vK ks
 wr : k50.R 50 W w0.heap.size (fun _ => True) vW ws
section
variable {w0 W : World} {gq gp gl : Nat} {ns : List Int} {ts : List ByteArray} {vN vT : Value} {x0 x1 x2 x3 : Int} {x4 x5 : ByteArray} {x6 : Bool} {ks : List ByteArray} {vK : Value} {ws : List S50} {vW : Value}
theorem PL.below {W1 : World} (h : PL w0 W gq gp gl ns ts vN vT x0 x1 x2 x3 x4 x5 x6 ks vK ws vW) (hb : Below W.heap.size W W1) : PL w0 W1 gq gp gl ns ts vN vT x0 x1 x2 x3 x4 x5 x6 ks vK ws vW :=
 ⟨h.q.below hb, blk_below h.bl hb, h.gel, h.nq, h.np, Kd.R_below h.kr hb, Kd.R_below h.wr hb⟩
theorem PL.drew (h : PL w0 W gq gp gl ns ts vN vT x0 x1 x2 x3 x4 x5 x6 ks vK ws vW) : PL w0 W.drew gq gp gl ns ts vN vT x0 x1 x2 x3 x4 x5 x6 ks vK ws vW := h.below (below_drew (Below.refl _ _))
theorem PL.alloc (h : PL w0 W gq gp gl ns ts vN vT x0 x1 x2 x3 x4 x5 x6 ks vK ws vW) (o : Obj) : PL w0 (W.alloc o) gq gp gl ns ts vN vT x0 x1 x2 x3 x4 x5 x6 ks vK ws vW := h.below (below_alloc (Below.refl _ _) o)
theorem PL.push {v1 : Value} {w1 : World} {ys : List S50} (h : PL w0 W gq gp gl ns ts vN vT x0 x1 x2 x3 x4 x5 x6 ks vK ws vW) (ho : k50.R 50 w1 w0.heap.size (fun _ => True) v1 ys) (hb : Below w0.heap.size w0 w1) (hg : W.grownBy w1 vW.ownBlock) :
  w1.heap[gl]? = some (.cells #[.int .i64 x0, .int .i64 x1, .int .i64 x2, .int .i64 x3, .string x4, .string x5, .bool x6, vK, vW] 25 (0, 0)) ∧ PL w0 (w1.setCell ⟨gl, 8, none⟩ v1) gq gp gl ns ts vN vT x0 x1 x2 x3 x4 x5 x6 ks vK ys v1 := by
 have b1 := blk_grown h.bl hg (Kd.R_ne h.wr h.bl (by decide))
 have q1 : QR w0 w1 gq gp ns ts vN vT := ⟨blk_grown h.q.bq hg (Kd.R_ne h.wr h.q.bq (by decide)), blk_grown h.q.bp hg (Kd.R_ne h.wr h.q.bp (by decide)), h.q.geq, h.q.gep, Kd.R_over h.q.ns h.wr (by decide) hg, Kd.R_over h.q.ts h.wr (by decide) hg, hb⟩
 exact ⟨b1, q1.set b1 h.gel h.nq h.np 8 v1, by simpa using blk_set b1 8 v1, h.gel, h.nq, h.np, Kd.R_set (Kd.R_over h.kr h.wr (by decide) hg) b1 (by decide) 8 v1, Kd.R_set ho b1 (by decide) 8 v1⟩
end
section
variable {w0 W : World} {gq gp : Nat} {ns : List Int} {ts : List ByteArray} {vN vT : Value} {x0 x1 x2 x3 : Int} {x4 x5 : ByteArray} {x6 : Bool} {ks : List ByteArray} {vK : Value}
theorem PL.new (hq : QR w0 W gq gp ns ts vN vT) (hk : Kd.string.R 9 W w0.heap.size (fun _ => True) vK ks) : PL w0 (W.alloc (.cells #[.int .i64 x0, .int .i64 x1, .int .i64 x2, .int .i64 x3, .string x4, .string x5, .bool x6, vK, .slice none 0 0] 25)) gq gp W.heap.size ns ts vN vT x0 x1 x2 x3 x4 x5 x6 ks vK [] (.slice none 0 0) :=
 ⟨hq.alloc _, blk_new W _, hq.bel.size, by have := blk_lt hq.bq; omega, by have := blk_lt hq.bp; omega, Kd.R_alloc hk _, Kd.R_nil _ _ _ _ _⟩
theorem PL.nine {g : Nat} (hq : QR w0 W gq gp ns ts vN vT) (hb : W.heap[g]? = some (.cells #[.int .i64 0, .int .i64 0, .int .i64 0, .int .i64 0, .string (⟨#[]⟩ : ByteArray), .string (⟨#[]⟩ : ByteArray), .bool false, .slice none 0 0, .slice none 0 0] 25 (0, 0))) (hg : w0.heap.size ≤ g) (nq : gq ≠ g) (np : gp ≠ g) (hk : Kd.string.R 9 W w0.heap.size (fun _ => True) vK ks) :
  PL w0 (((((((((W.setCell ⟨g, 0, none⟩ (.int .i64 x0)).setCell ⟨g, 1, none⟩ (.int .i64 x1)).setCell ⟨g, 2, none⟩ (.int .i64 x2)).setCell ⟨g, 3, none⟩ (.int .i64 x3)).setCell ⟨g, 4, none⟩ (.string x4)).setCell ⟨g, 5, none⟩ (.string x5)).setCell ⟨g, 6, none⟩ (.bool x6)).setCell ⟨g, 7, none⟩ vK).setCell ⟨g, 8, none⟩ (.slice none 0 0)) gq gp g ns ts vN vT x0 x1 x2 x3 x4 x5 x6 ks vK [] (.slice none 0 0) :=
 ⟨⟨((keep9 (W := W) (g := g)).2 gq (blk_lt hq.bq) nq (by simp)).trans hq.bq, ((keep9 (W := W) (g := g)).2 gp (blk_lt hq.bp) np (by simp)).trans hq.bp, hq.geq, hq.gep, Kd.R_mono (Kd.R_keep (Kd.R_types hq.ns hb (by decide)) keep9 (fun _ hk => hk.2)) (fun _ _ => trivial), Kd.R_mono (Kd.R_keep (Kd.R_types hq.ts hb (by decide)) keep9 (fun _ hk => hk.2)) (fun _ _ => trivial), below9 hq.bel hg⟩, set9 hb, hg, nq, np, Kd.R_mono (Kd.R_keep (Kd.R_types hk hb (by decide)) keep9 (fun _ hk => hk.2)) (fun _ _ => trivial), Kd.R_nil _ _ _ _ _⟩
end
set_option maxHeartbeats 4000000 in
set_option maxRecDepth 100000 in
theorem ld_e (s : ByteArray) (ns : List Int) (ts : List ByteArray) (p e : Int) (w : World) (hf : pack_Decode.f s = some (ns, ts, p, e)) (he : e ≠ 0) :
  Calls Try.prog 18 #[.string s] w (NoLetE w) := by
 have e1 : (e == 0) = false := beq_eq_false_iff_ne.2 he
 have e2 : (e != 0) = true := bne_iff_ne.2 he
 clear he
 have hu25 := Try.underlying25
 have hu48 := Try.underlying48
 have HF := Aside0.mk hf
 clear hf
 go_enter Try.func18, Try.ntmps18
 go_upto_region 2 with (first | ((with_reducible refine gate_dst (N := 2) rfl ?_); refine box_event ?hg (N := 2) ?hd (cs := #[.int .i64 0, .int .i64 0, .int .i64 0, .int .i64 0, .string (⟨#[]⟩ : ByteArray), .string (⟨#[]⟩ : ByteArray), .bool false, .slice none 0 0, .slice none 0 0]) (t := 25) ?hr ?_; (case hd => rfl); (case hg => rfl); (case hr => first | (go_simp; done) | (go_simp; rfl)); intro gq hgg w1 hbox hb; have GQ := Aside0.mk (Nat.le_of_eq hgg.symm); have BQ := Aside0.mk hbox; have BA := Aside0.mk hb; clear hgg hbox hb) | (go_at_call 36; refine (pack_Decode.calls s _ _ _ _ _ HF.out).mono ?_; rintro x w2 ⟨v0, v1, rfl, hN, hT, hb⟩; obtain ⟨AN, cN, eN⟩ := Kd.R_slice hN; subst eN; obtain ⟨AT, cT, eT⟩ := Kd.R_slice hT; subst eT; have GN := Aside0.mk (Kd.R_lower hN (below_size BA.out)); have GT := Aside0.mk (Kd.R_lower hT (below_size BA.out)); have BC := Aside0.mk (below_step BA.out hb); have BQ2 := Aside0.mk (blk_below BQ.out hb); clear hN hT hb) | ((with_reducible refine gate_dst (N := 4) rfl ?_); refine box_event ?hg (N := 4) ?hd (cs := #[.slice none 0 0, .slice none 0 0]) (t := 48) ?hr ?_; (case hd => rfl); (case hg => rfl); (case hr => first | (go_simp; done) | (go_simp; rfl)); intro gp hgp w3 hbox hb; have HQ := Aside0.mk (qr_of GQ.out BQ2.out hbox hgp GN.out GT.out BC.out hb); have hz0 : w3.cell? ⟨gp, 0, none⟩ = some (.slice none 0 0) := (blk_cell hbox 0).trans rfl; have hz1 : w3.cell? ⟨gp, 1, none⟩ = some (.slice none 0 0) := (blk_cell hbox 1).trans rfl; have hzf0 := blk_frozen hbox 0; have hzf1 := blk_frozen hbox 1; clear hgp hbox hb))
 generalize eW : (w3.setCell ⟨gp, 0, none⟩ (.slice AN ns.length cN)).setCell ⟨gp, 1, none⟩ (.slice AT ts.length cT) = W at HQ ⊢
 clear eW hz0 hz1 hzf0 hzf1 GN GT BC BQ2 BQ BA GQ
 have hP0 : W.cell? ⟨gp, 0, none⟩ = some (.slice AN ns.length cN) := (blk_cell HQ.out.bp 0).trans rfl
 have hP1 : W.cell? ⟨gp, 1, none⟩ = some (.slice AT ts.length cT) := (blk_cell HQ.out.bp 1).trans rfl
 have hq0 : W.cell? ⟨gq, 0, none⟩ = some (.int .i64 0) := (blk_cell HQ.out.bq 0).trans rfl
 have hqf0 := blk_frozen HQ.out.bq 0
 have hq1 : W.cell? ⟨gq, 1, none⟩ = some (.int .i64 0) := (blk_cell HQ.out.bq 1).trans rfl
 have hqf1 := blk_frozen HQ.out.bq 1
 have hq2 : W.cell? ⟨gq, 2, none⟩ = some (.int .i64 0) := (blk_cell HQ.out.bq 2).trans rfl
 have hqf2 := blk_frozen HQ.out.bq 2
 have hq3 : W.cell? ⟨gq, 3, none⟩ = some (.int .i64 0) := (blk_cell HQ.out.bq 3).trans rfl
 have hqf3 := blk_frozen HQ.out.bq 3
 have hq4 : W.cell? ⟨gq, 4, none⟩ = some (.string (⟨#[]⟩ : ByteArray)) := (blk_cell HQ.out.bq 4).trans rfl
 have hqf4 := blk_frozen HQ.out.bq 4
 have hq5 : W.cell? ⟨gq, 5, none⟩ = some (.string (⟨#[]⟩ : ByteArray)) := (blk_cell HQ.out.bq 5).trans rfl
 have hqf5 := blk_frozen HQ.out.bq 5
 have hq6 : W.cell? ⟨gq, 6, none⟩ = some (.bool false) := (blk_cell HQ.out.bq 6).trans rfl
 have hqf6 := blk_frozen HQ.out.bq 6
 have hq7 : W.cell? ⟨gq, 7, none⟩ = some (.slice none 0 0) := (blk_cell HQ.out.bq 7).trans rfl
 have hqf7 := blk_frozen HQ.out.bq 7
 have hq8 : W.cell? ⟨gq, 8, none⟩ = some (.slice none 0 0) := (blk_cell HQ.out.bq 8).trans rfl
 have hqf8 := blk_frozen HQ.out.bq 8
 go_wp2
 refine bodyPost_ret (results_ct rfl _ _ gq 25 #[.int .i64 0, .int .i64 0, .int .i64 0, .int .i64 0, .string (⟨#[]⟩ : ByteArray), .string (⟨#[]⟩ : ByteArray), .bool false, .slice none 0 0, .slice none 0 0] (0, 0) _ rfl (set9 HQ.out.bq) Try.underlying25 rfl (by kernel_rfl)) rfl ?_
 exact ⟨rfl, below9 HQ.out.bel HQ.out.geq⟩
set_option maxHeartbeats 4000000 in
set_option maxRecDepth 100000 in
theorem ld_n (s : ByteArray) (ns : List Int) (ts : List ByteArray) (p : Int) (w : World) (hf : pack_Decode.f s = some (ns, ts, p, 0)) (hn : ns.length < 6) :
  Calls Try.prog 18 #[.string s] w (NoLetE w) := by
 have e1 : decide ((ns.length : Int) < 6) = true := decide_eq_true (by omega)
 have e2 : decide (ns.length < 6) = true := decide_eq_true hn
 clear hn
 have hu25 := Try.underlying25
 have hu48 := Try.underlying48
 have HF := Aside0.mk hf
 clear hf
 go_enter Try.func18, Try.ntmps18
 go_upto_region 2 with (first | ((with_reducible refine gate_dst (N := 2) rfl ?_); refine box_event ?hg (N := 2) ?hd (cs := #[.int .i64 0, .int .i64 0, .int .i64 0, .int .i64 0, .string (⟨#[]⟩ : ByteArray), .string (⟨#[]⟩ : ByteArray), .bool false, .slice none 0 0, .slice none 0 0]) (t := 25) ?hr ?_; (case hd => rfl); (case hg => rfl); (case hr => first | (go_simp; done) | (go_simp; rfl)); intro gq hgg w1 hbox hb; have GQ := Aside0.mk (Nat.le_of_eq hgg.symm); have BQ := Aside0.mk hbox; have BA := Aside0.mk hb; clear hgg hbox hb) | (go_at_call 36; refine (pack_Decode.calls s _ _ _ _ _ HF.out).mono ?_; rintro x w2 ⟨v0, v1, rfl, hN, hT, hb⟩; obtain ⟨AN, cN, eN⟩ := Kd.R_slice hN; subst eN; obtain ⟨AT, cT, eT⟩ := Kd.R_slice hT; subst eT; have GN := Aside0.mk (Kd.R_lower hN (below_size BA.out)); have GT := Aside0.mk (Kd.R_lower hT (below_size BA.out)); have BC := Aside0.mk (below_step BA.out hb); have BQ2 := Aside0.mk (blk_below BQ.out hb); clear hN hT hb) | ((with_reducible refine gate_dst (N := 4) rfl ?_); refine box_event ?hg (N := 4) ?hd (cs := #[.slice none 0 0, .slice none 0 0]) (t := 48) ?hr ?_; (case hd => rfl); (case hg => rfl); (case hr => first | (go_simp; done) | (go_simp; rfl)); intro gp hgp w3 hbox hb; have HQ := Aside0.mk (qr_of GQ.out BQ2.out hbox hgp GN.out GT.out BC.out hb); have hz0 : w3.cell? ⟨gp, 0, none⟩ = some (.slice none 0 0) := (blk_cell hbox 0).trans rfl; have hz1 : w3.cell? ⟨gp, 1, none⟩ = some (.slice none 0 0) := (blk_cell hbox 1).trans rfl; have hzf0 := blk_frozen hbox 0; have hzf1 := blk_frozen hbox 1; clear hgp hbox hb))
 generalize eW : (w3.setCell ⟨gp, 0, none⟩ (.slice AN ns.length cN)).setCell ⟨gp, 1, none⟩ (.slice AT ts.length cT) = W at HQ ⊢
 clear eW hz0 hz1 hzf0 hzf1 GN GT BC BQ2 BQ BA GQ
 have hP0 : W.cell? ⟨gp, 0, none⟩ = some (.slice AN ns.length cN) := (blk_cell HQ.out.bp 0).trans rfl
 have hP1 : W.cell? ⟨gp, 1, none⟩ = some (.slice AT ts.length cT) := (blk_cell HQ.out.bp 1).trans rfl
 have hq0 : W.cell? ⟨gq, 0, none⟩ = some (.int .i64 0) := (blk_cell HQ.out.bq 0).trans rfl
 have hqf0 := blk_frozen HQ.out.bq 0
 have hq1 : W.cell? ⟨gq, 1, none⟩ = some (.int .i64 0) := (blk_cell HQ.out.bq 1).trans rfl
 have hqf1 := blk_frozen HQ.out.bq 1
 have hq2 : W.cell? ⟨gq, 2, none⟩ = some (.int .i64 0) := (blk_cell HQ.out.bq 2).trans rfl
 have hqf2 := blk_frozen HQ.out.bq 2
 have hq3 : W.cell? ⟨gq, 3, none⟩ = some (.int .i64 0) := (blk_cell HQ.out.bq 3).trans rfl
 have hqf3 := blk_frozen HQ.out.bq 3
 have hq4 : W.cell? ⟨gq, 4, none⟩ = some (.string (⟨#[]⟩ : ByteArray)) := (blk_cell HQ.out.bq 4).trans rfl
 have hqf4 := blk_frozen HQ.out.bq 4
 have hq5 : W.cell? ⟨gq, 5, none⟩ = some (.string (⟨#[]⟩ : ByteArray)) := (blk_cell HQ.out.bq 5).trans rfl
 have hqf5 := blk_frozen HQ.out.bq 5
 have hq6 : W.cell? ⟨gq, 6, none⟩ = some (.bool false) := (blk_cell HQ.out.bq 6).trans rfl
 have hqf6 := blk_frozen HQ.out.bq 6
 have hq7 : W.cell? ⟨gq, 7, none⟩ = some (.slice none 0 0) := (blk_cell HQ.out.bq 7).trans rfl
 have hqf7 := blk_frozen HQ.out.bq 7
 have hq8 : W.cell? ⟨gq, 8, none⟩ = some (.slice none 0 0) := (blk_cell HQ.out.bq 8).trans rfl
 have hqf8 := blk_frozen HQ.out.bq 8
 go_wp2
 refine bodyPost_ret (results_ct rfl _ _ gq 25 #[.int .i64 0, .int .i64 0, .int .i64 0, .int .i64 0, .string (⟨#[]⟩ : ByteArray), .string (⟨#[]⟩ : ByteArray), .bool false, .slice none 0 0, .slice none 0 0] (0, 0) _ rfl (set9 HQ.out.bq) Try.underlying25 rfl (by kernel_rfl)) rfl ?_
 exact ⟨rfl, below9 HQ.out.bel HQ.out.geq⟩
set_option maxHeartbeats 4000000 in
set_option maxRecDepth 100000 in
theorem ld_t (s : ByteArray) (ns : List Int) (ts : List ByteArray) (p : Int) (w : World) (hf : pack_Decode.f s = some (ns, ts, p, 0)) (hn : 6 ≤ ns.length) (ht : ts.length < 2) :
  Calls Try.prog 18 #[.string s] w (NoLetE w) := by
 have e1 : decide ((ns.length : Int) < 6) = false := decide_eq_false (by omega)
 have e2 : decide (ns.length < 6) = false := decide_eq_false (by omega)
 have t3 : decide ((ts.length : Int) < 2) = true := decide_eq_true (by omega)
 have t4 : decide (ts.length < 2) = true := decide_eq_true ht
 clear hn ht
 have hu25 := Try.underlying25
 have hu48 := Try.underlying48
 have HF := Aside0.mk hf
 clear hf
 go_enter Try.func18, Try.ntmps18
 go_upto_region 2 with (first | ((with_reducible refine gate_dst (N := 2) rfl ?_); refine box_event ?hg (N := 2) ?hd (cs := #[.int .i64 0, .int .i64 0, .int .i64 0, .int .i64 0, .string (⟨#[]⟩ : ByteArray), .string (⟨#[]⟩ : ByteArray), .bool false, .slice none 0 0, .slice none 0 0]) (t := 25) ?hr ?_; (case hd => rfl); (case hg => rfl); (case hr => first | (go_simp; done) | (go_simp; rfl)); intro gq hgg w1 hbox hb; have GQ := Aside0.mk (Nat.le_of_eq hgg.symm); have BQ := Aside0.mk hbox; have BA := Aside0.mk hb; clear hgg hbox hb) | (go_at_call 36; refine (pack_Decode.calls s _ _ _ _ _ HF.out).mono ?_; rintro x w2 ⟨v0, v1, rfl, hN, hT, hb⟩; obtain ⟨AN, cN, eN⟩ := Kd.R_slice hN; subst eN; obtain ⟨AT, cT, eT⟩ := Kd.R_slice hT; subst eT; have GN := Aside0.mk (Kd.R_lower hN (below_size BA.out)); have GT := Aside0.mk (Kd.R_lower hT (below_size BA.out)); have BC := Aside0.mk (below_step BA.out hb); have BQ2 := Aside0.mk (blk_below BQ.out hb); clear hN hT hb) | ((with_reducible refine gate_dst (N := 4) rfl ?_); refine box_event ?hg (N := 4) ?hd (cs := #[.slice none 0 0, .slice none 0 0]) (t := 48) ?hr ?_; (case hd => rfl); (case hg => rfl); (case hr => first | (go_simp; done) | (go_simp; rfl)); intro gp hgp w3 hbox hb; have HQ := Aside0.mk (qr_of GQ.out BQ2.out hbox hgp GN.out GT.out BC.out hb); have hz0 : w3.cell? ⟨gp, 0, none⟩ = some (.slice none 0 0) := (blk_cell hbox 0).trans rfl; have hz1 : w3.cell? ⟨gp, 1, none⟩ = some (.slice none 0 0) := (blk_cell hbox 1).trans rfl; have hzf0 := blk_frozen hbox 0; have hzf1 := blk_frozen hbox 1; clear hgp hbox hb))
 generalize eW : (w3.setCell ⟨gp, 0, none⟩ (.slice AN ns.length cN)).setCell ⟨gp, 1, none⟩ (.slice AT ts.length cT) = W at HQ ⊢
 clear eW hz0 hz1 hzf0 hzf1 GN GT BC BQ2 BQ BA GQ
 have hP0 : W.cell? ⟨gp, 0, none⟩ = some (.slice AN ns.length cN) := (blk_cell HQ.out.bp 0).trans rfl
 have hP1 : W.cell? ⟨gp, 1, none⟩ = some (.slice AT ts.length cT) := (blk_cell HQ.out.bp 1).trans rfl
 have hq0 : W.cell? ⟨gq, 0, none⟩ = some (.int .i64 0) := (blk_cell HQ.out.bq 0).trans rfl
 have hqf0 := blk_frozen HQ.out.bq 0
 have hq1 : W.cell? ⟨gq, 1, none⟩ = some (.int .i64 0) := (blk_cell HQ.out.bq 1).trans rfl
 have hqf1 := blk_frozen HQ.out.bq 1
 have hq2 : W.cell? ⟨gq, 2, none⟩ = some (.int .i64 0) := (blk_cell HQ.out.bq 2).trans rfl
 have hqf2 := blk_frozen HQ.out.bq 2
 have hq3 : W.cell? ⟨gq, 3, none⟩ = some (.int .i64 0) := (blk_cell HQ.out.bq 3).trans rfl
 have hqf3 := blk_frozen HQ.out.bq 3
 have hq4 : W.cell? ⟨gq, 4, none⟩ = some (.string (⟨#[]⟩ : ByteArray)) := (blk_cell HQ.out.bq 4).trans rfl
 have hqf4 := blk_frozen HQ.out.bq 4
 have hq5 : W.cell? ⟨gq, 5, none⟩ = some (.string (⟨#[]⟩ : ByteArray)) := (blk_cell HQ.out.bq 5).trans rfl
 have hqf5 := blk_frozen HQ.out.bq 5
 have hq6 : W.cell? ⟨gq, 6, none⟩ = some (.bool false) := (blk_cell HQ.out.bq 6).trans rfl
 have hqf6 := blk_frozen HQ.out.bq 6
 have hq7 : W.cell? ⟨gq, 7, none⟩ = some (.slice none 0 0) := (blk_cell HQ.out.bq 7).trans rfl
 have hqf7 := blk_frozen HQ.out.bq 7
 have hq8 : W.cell? ⟨gq, 8, none⟩ = some (.slice none 0 0) := (blk_cell HQ.out.bq 8).trans rfl
 have hqf8 := blk_frozen HQ.out.bq 8
 go_wp2
 refine bodyPost_ret (results_ct rfl _ _ gq 25 #[.int .i64 0, .int .i64 0, .int .i64 0, .int .i64 0, .string (⟨#[]⟩ : ByteArray), .string (⟨#[]⟩ : ByteArray), .bool false, .slice none 0 0, .slice none 0 0] (0, 0) _ rfl (set9 HQ.out.bq) Try.underlying25 rfl (by kernel_rfl)) rfl ?_
 exact ⟨rfl, below9 HQ.out.bel HQ.out.geq⟩
set_option maxHeartbeats 4000000 in
set_option maxRecDepth 100000 in
theorem ld_m1 (s : ByteArray) (ns : List Int) (ts : List ByteArray) (p : Int) (w : World) (hf : pack_Decode.f s = some (ns, ts, p, 0)) (hn : 6 ≤ ns.length) (ht : 2 ≤ ts.length) (hm : rd ns 5 < 0) :
  Calls Try.prog 18 #[.string s] w (NoLetE w) := by
 have e1 : decide ((ns.length : Int) < 6) = false := decide_eq_false (by omega)
 have e2 : decide (ns.length < 6) = false := decide_eq_false (by omega)
 have e3 : decide ((ts.length : Int) < 2) = false := decide_eq_false (by omega)
 have e4 : decide (ts.length < 2) = false := decide_eq_false (by omega)
 have e5 : ¬ (ts.length = 0) := by omega
 have e6 : ¬ (ts = []) := fun h => by rw [h] at ht; exact absurd ht (by decide)
 have hl7 := hn
 have hl1 := ht
 have m1 : decide (rd ns 5 < 0) = true := decide_eq_true hm
 clear hn ht
 have hu25 := Try.underlying25
 have hu48 := Try.underlying48
 have HF := Aside0.mk hf
 clear hf
 go_enter Try.func18, Try.ntmps18
 go_upto_region 2 with (first | ((with_reducible refine gate_dst (N := 2) rfl ?_); refine box_event ?hg (N := 2) ?hd (cs := #[.int .i64 0, .int .i64 0, .int .i64 0, .int .i64 0, .string (⟨#[]⟩ : ByteArray), .string (⟨#[]⟩ : ByteArray), .bool false, .slice none 0 0, .slice none 0 0]) (t := 25) ?hr ?_; (case hd => rfl); (case hg => rfl); (case hr => first | (go_simp; done) | (go_simp; rfl)); intro gq hgg w1 hbox hb; have GQ := Aside0.mk (Nat.le_of_eq hgg.symm); have BQ := Aside0.mk hbox; have BA := Aside0.mk hb; clear hgg hbox hb) | (go_at_call 36; refine (pack_Decode.calls s _ _ _ _ _ HF.out).mono ?_; rintro x w2 ⟨v0, v1, rfl, hN, hT, hb⟩; obtain ⟨AN, cN, eN⟩ := Kd.R_slice hN; subst eN; obtain ⟨AT, cT, eT⟩ := Kd.R_slice hT; subst eT; have GN := Aside0.mk (Kd.R_lower hN (below_size BA.out)); have GT := Aside0.mk (Kd.R_lower hT (below_size BA.out)); have BC := Aside0.mk (below_step BA.out hb); have BQ2 := Aside0.mk (blk_below BQ.out hb); clear hN hT hb) | ((with_reducible refine gate_dst (N := 4) rfl ?_); refine box_event ?hg (N := 4) ?hd (cs := #[.slice none 0 0, .slice none 0 0]) (t := 48) ?hr ?_; (case hd => rfl); (case hg => rfl); (case hr => first | (go_simp; done) | (go_simp; rfl)); intro gp hgp w3 hbox hb; have HQ := Aside0.mk (qr_of GQ.out BQ2.out hbox hgp GN.out GT.out BC.out hb); have hz0 : w3.cell? ⟨gp, 0, none⟩ = some (.slice none 0 0) := (blk_cell hbox 0).trans rfl; have hz1 : w3.cell? ⟨gp, 1, none⟩ = some (.slice none 0 0) := (blk_cell hbox 1).trans rfl; have hzf0 := blk_frozen hbox 0; have hzf1 := blk_frozen hbox 1; clear hgp hbox hb))
 generalize eW : (w3.setCell ⟨gp, 0, none⟩ (.slice AN ns.length cN)).setCell ⟨gp, 1, none⟩ (.slice AT ts.length cT) = W at HQ ⊢
 clear eW hz0 hz1 hzf0 hzf1 GN GT BC BQ2 BQ BA GQ
 have hP0 : W.cell? ⟨gp, 0, none⟩ = some (.slice AN ns.length cN) := (blk_cell HQ.out.bp 0).trans rfl
 have hP1 : W.cell? ⟨gp, 1, none⟩ = some (.slice AT ts.length cT) := (blk_cell HQ.out.bp 1).trans rfl
 have hq0 : W.cell? ⟨gq, 0, none⟩ = some (.int .i64 0) := (blk_cell HQ.out.bq 0).trans rfl
 have hqf0 := blk_frozen HQ.out.bq 0
 have hq1 : W.cell? ⟨gq, 1, none⟩ = some (.int .i64 0) := (blk_cell HQ.out.bq 1).trans rfl
 have hqf1 := blk_frozen HQ.out.bq 1
 have hq2 : W.cell? ⟨gq, 2, none⟩ = some (.int .i64 0) := (blk_cell HQ.out.bq 2).trans rfl
 have hqf2 := blk_frozen HQ.out.bq 2
 have hq3 : W.cell? ⟨gq, 3, none⟩ = some (.int .i64 0) := (blk_cell HQ.out.bq 3).trans rfl
 have hqf3 := blk_frozen HQ.out.bq 3
 have hq4 : W.cell? ⟨gq, 4, none⟩ = some (.string (⟨#[]⟩ : ByteArray)) := (blk_cell HQ.out.bq 4).trans rfl
 have hqf4 := blk_frozen HQ.out.bq 4
 have hq5 : W.cell? ⟨gq, 5, none⟩ = some (.string (⟨#[]⟩ : ByteArray)) := (blk_cell HQ.out.bq 5).trans rfl
 have hqf5 := blk_frozen HQ.out.bq 5
 have hq6 : W.cell? ⟨gq, 6, none⟩ = some (.bool false) := (blk_cell HQ.out.bq 6).trans rfl
 have hqf6 := blk_frozen HQ.out.bq 6
 have hq7 : W.cell? ⟨gq, 7, none⟩ = some (.slice none 0 0) := (blk_cell HQ.out.bq 7).trans rfl
 have hqf7 := blk_frozen HQ.out.bq 7
 have hq8 : W.cell? ⟨gq, 8, none⟩ = some (.slice none 0 0) := (blk_cell HQ.out.bq 8).trans rfl
 have hqf8 := blk_frozen HQ.out.bq 8
 obtain ⟨gn, cn, eN, gnb, gnl, cellsN, hcN⟩ := Kd.R_form HQ.out.ns (by omega)
 obtain ⟨gt, ct, eT, gtb, gtl, cellsT, hcT⟩ := Kd.R_form HQ.out.ts (by omega)
 have eN' : AN = some ⟨gn, 0, none⟩ ∧ cN = cn := by simpa using eN
 have eT' : AT = some ⟨gt, 0, none⟩ ∧ cT = ct := by simpa using eT
 obtain ⟨rfl, rfl⟩ := eN'
 obtain ⟨rfl, rfl⟩ := eT'
 obtain ⟨_, hcapN, hCN⟩ := Kd.R_reads' HQ.out.ns
 obtain ⟨_, hcapT, hCT⟩ := Kd.R_reads' HQ.out.ts
 clear eN eT hcN hcT gnb gnl gtb gtl
 obtain ⟨_, eA, hn0⟩ := Kd.at_int hCN 0 (by decide) (by omega)
 cases eA
 replace hn0 : W.cell? ⟨gn, 0, none⟩ = some (.int .i64 (rd ns 0)) := by simpa [add_plain] using hn0
 obtain ⟨_, eA, hn1⟩ := Kd.at_int hCN 1 (by decide) (by omega)
 cases eA
 replace hn1 : W.cell? ⟨gn, 1, none⟩ = some (.int .i64 (rd ns 1)) := by simpa [add_plain] using hn1
 obtain ⟨_, eA, hn2⟩ := Kd.at_int hCN 2 (by decide) (by omega)
 cases eA
 replace hn2 : W.cell? ⟨gn, 2, none⟩ = some (.int .i64 (rd ns 2)) := by simpa [add_plain] using hn2
 obtain ⟨_, eA, hn3⟩ := Kd.at_int hCN 3 (by decide) (by omega)
 cases eA
 replace hn3 : W.cell? ⟨gn, 3, none⟩ = some (.int .i64 (rd ns 3)) := by simpa [add_plain] using hn3
 obtain ⟨_, eA, hn4⟩ := Kd.at_int hCN 4 (by decide) (by omega)
 cases eA
 replace hn4 : W.cell? ⟨gn, 4, none⟩ = some (.int .i64 (rd ns 4)) := by simpa [add_plain] using hn4
 obtain ⟨_, eA, hn5⟩ := Kd.at_int hCN 5 (by decide) (by omega)
 cases eA
 replace hn5 : W.cell? ⟨gn, 5, none⟩ = some (.int .i64 (rd ns 5)) := by simpa [add_plain] using hn5
 obtain ⟨_, eA, ht0⟩ := Kd.at_string hCT 0 (by decide) (by omega)
 cases eA
 replace ht0 : W.cell? ⟨gt, 0, none⟩ = some (.string (rdOf ByteArray.empty ts 0)) := by simpa [add_plain] using ht0
 obtain ⟨_, eA, ht1⟩ := Kd.at_string hCT 1 (by decide) (by omega)
 cases eA
 replace ht1 : W.cell? ⟨gt, 1, none⟩ = some (.string (rdOf ByteArray.empty ts 1)) := by simpa [add_plain] using ht1
 go_wp2
 obtain ⟨i3, hi3, hz3⟩ := Option.map_eq_some_iff.1 info3
 have hs3 : i3.size = 1 := by simpa using congrArg (fun x => x.2.1) hz3
 have hcutN := fun W => cut_from (P := Try.prog) 46 3 .i64 Try.underlying46 hi3 1 hs3 (some ⟨gn, 0, none⟩) ns.length cN 6 (by decide) (by omega) W
 have hsameN : (if cN = (6 : Int).toNat then (some ⟨gn, 0, none⟩ : Option Addr) else (some ⟨gn, 0, none⟩ : Option Addr).map (·.add ((6 : Int).toNat * 1))) = (if cN = 6 then (some ⟨gn, 0, none⟩ : Option Addr) else (some ⟨gn, 0, none⟩ : Option Addr).map (·.add (6 * (Kd.int .i64).sz))) := rfl
 rw [hsameN] at hcutN
 obtain ⟨AF, hAF⟩ : ∃ A, A = (if cN = 6 then (some ⟨gn, 0, none⟩ : Option Addr) else (some ⟨gn, 0, none⟩ : Option Addr).map (·.add (6 * (Kd.int .i64).sz))) := ⟨_, rfl⟩
 rw [← hAF] at hcutN
 have HMF : Aside0 (∀ W', (Kd.int .i64).C W' (some ⟨gn, 0, none⟩) ns.length ns → (Kd.int .i64).C W' AF (ns.drop 6).length (ns.drop 6)) := ⟨fun W' h => by rw [hAF]; exact Kd.C_drop (m := 6) h (by omega) hcapN⟩
 have q5 : (6 : Int) ≤ (ns.length : Int) := by omega
 have j5_ : (5 : Int) < (ns.length : Int) := by omega
 have jj5_ : 5 < ns.length := by omega
 have jn : ¬ (ns = []) := fun h => by rw [h] at hl7; exact absurd hl7 (by decide)
 have HCAPN := Aside0.mk hcapN
 have HCAP := Aside0.mk hcapT
 clear hsameN hAF hs3 hz3 hi3 hcapN hcapT hCN hCT
 go_region_held3 (fun W => W.cell? ⟨gp, 0, none⟩ = some (.slice (some ⟨gn, 0, none⟩) ns.length cN) ∧ W.cell? ⟨gn, 5, none⟩ = some (.int .i64 (rd ns 5))) (go_keep) (fail)
 have HQ1 := Aside0.mk HQ.out.drew
 generalize eW : W.drew = W1 at HQ1 ⊢
 clear eW HQ hP0 hP1 hn0 hn1 hn2 hn3 hn4 hn5 ht0 ht1 hq0 hqf0 hq1 hqf1 hq2 hqf2 hq3 hqf3 hq4 hqf4 hq5 hqf5 hq6 hqf6 hq7 hqf7 hq8 hqf8
 have hq0 : W1.cell? ⟨gq, 0, none⟩ = some (.int .i64 0) := (blk_cell HQ1.out.bq 0).trans rfl
 have hqf0 := blk_frozen HQ1.out.bq 0
 have hq1 : W1.cell? ⟨gq, 1, none⟩ = some (.int .i64 0) := (blk_cell HQ1.out.bq 1).trans rfl
 have hqf1 := blk_frozen HQ1.out.bq 1
 have hq2 : W1.cell? ⟨gq, 2, none⟩ = some (.int .i64 0) := (blk_cell HQ1.out.bq 2).trans rfl
 have hqf2 := blk_frozen HQ1.out.bq 2
 have hq3 : W1.cell? ⟨gq, 3, none⟩ = some (.int .i64 0) := (blk_cell HQ1.out.bq 3).trans rfl
 have hqf3 := blk_frozen HQ1.out.bq 3
 have hq4 : W1.cell? ⟨gq, 4, none⟩ = some (.string (⟨#[]⟩ : ByteArray)) := (blk_cell HQ1.out.bq 4).trans rfl
 have hqf4 := blk_frozen HQ1.out.bq 4
 have hq5 : W1.cell? ⟨gq, 5, none⟩ = some (.string (⟨#[]⟩ : ByteArray)) := (blk_cell HQ1.out.bq 5).trans rfl
 have hqf5 := blk_frozen HQ1.out.bq 5
 have hq6 : W1.cell? ⟨gq, 6, none⟩ = some (.bool false) := (blk_cell HQ1.out.bq 6).trans rfl
 have hqf6 := blk_frozen HQ1.out.bq 6
 have hq7 : W1.cell? ⟨gq, 7, none⟩ = some (.slice none 0 0) := (blk_cell HQ1.out.bq 7).trans rfl
 have hqf7 := blk_frozen HQ1.out.bq 7
 have hq8 : W1.cell? ⟨gq, 8, none⟩ = some (.slice none 0 0) := (blk_cell HQ1.out.bq 8).trans rfl
 have hqf8 := blk_frozen HQ1.out.bq 8
 have hP0 : W1.cell? ⟨gp, 0, none⟩ = some (.slice (some ⟨gn, 0, none⟩) ns.length cN) := (blk_cell HQ1.out.bp 0).trans rfl
 have hP1 : W1.cell? ⟨gp, 1, none⟩ = some (.slice (some ⟨gt, 0, none⟩) ts.length cT) := (blk_cell HQ1.out.bp 1).trans rfl
 go_wp2
 refine bodyPost_ret (results_ct rfl _ _ gq 25 #[.int .i64 0, .int .i64 0, .int .i64 0, .int .i64 0, .string (⟨#[]⟩ : ByteArray), .string (⟨#[]⟩ : ByteArray), .bool false, .slice none 0 0, .slice none 0 0] (0, 0) _ rfl (set9 HQ1.out.bq) Try.underlying25 rfl (by kernel_rfl)) rfl ?_
 exact ⟨rfl, below9 HQ1.out.bel HQ1.out.geq⟩
set_option maxHeartbeats 4000000 in
set_option maxRecDepth 100000 in
theorem ld_m2 (s : ByteArray) (ns : List Int) (ts : List ByteArray) (p : Int) (w : World) (hf : pack_Decode.f s = some (ns, ts, p, 0)) (hn : 6 ≤ ns.length) (ht : 2 ≤ ts.length) (hb : ts.length ≤ 1024) (hm : 0 ≤ rd ns 5) (hm2 : (ts.length : Int) - 2 < rd ns 5) :
  Calls Try.prog 18 #[.string s] w (NoLetE w) := by
 have e1 : decide ((ns.length : Int) < 6) = false := decide_eq_false (by omega)
 have e2 : decide (ns.length < 6) = false := decide_eq_false (by omega)
 have e3 : decide ((ts.length : Int) < 2) = false := decide_eq_false (by omega)
 have e4 : decide (ts.length < 2) = false := decide_eq_false (by omega)
 have e5 : ¬ (ts.length = 0) := by omega
 have e6 : ¬ (ts = []) := fun h => by rw [h] at ht; exact absurd ht (by decide)
 have hl7 := hn
 have hl1 := ht
 have m1 : decide (rd ns 5 < 0) = false := decide_eq_false (by omega)
 have m2 : decide ((ts.length : Int) - 2 < rd ns 5) = true := decide_eq_true hm2
 clear hn ht
 have hu25 := Try.underlying25
 have hu48 := Try.underlying48
 have HF := Aside0.mk hf
 clear hf
 go_enter Try.func18, Try.ntmps18
 go_upto_region 2 with (first | ((with_reducible refine gate_dst (N := 2) rfl ?_); refine box_event ?hg (N := 2) ?hd (cs := #[.int .i64 0, .int .i64 0, .int .i64 0, .int .i64 0, .string (⟨#[]⟩ : ByteArray), .string (⟨#[]⟩ : ByteArray), .bool false, .slice none 0 0, .slice none 0 0]) (t := 25) ?hr ?_; (case hd => rfl); (case hg => rfl); (case hr => first | (go_simp; done) | (go_simp; rfl)); intro gq hgg w1 hbox hb; have GQ := Aside0.mk (Nat.le_of_eq hgg.symm); have BQ := Aside0.mk hbox; have BA := Aside0.mk hb; clear hgg hbox hb) | (go_at_call 36; refine (pack_Decode.calls s _ _ _ _ _ HF.out).mono ?_; rintro x w2 ⟨v0, v1, rfl, hN, hT, hb⟩; obtain ⟨AN, cN, eN⟩ := Kd.R_slice hN; subst eN; obtain ⟨AT, cT, eT⟩ := Kd.R_slice hT; subst eT; have GN := Aside0.mk (Kd.R_lower hN (below_size BA.out)); have GT := Aside0.mk (Kd.R_lower hT (below_size BA.out)); have BC := Aside0.mk (below_step BA.out hb); have BQ2 := Aside0.mk (blk_below BQ.out hb); clear hN hT hb) | ((with_reducible refine gate_dst (N := 4) rfl ?_); refine box_event ?hg (N := 4) ?hd (cs := #[.slice none 0 0, .slice none 0 0]) (t := 48) ?hr ?_; (case hd => rfl); (case hg => rfl); (case hr => first | (go_simp; done) | (go_simp; rfl)); intro gp hgp w3 hbox hb; have HQ := Aside0.mk (qr_of GQ.out BQ2.out hbox hgp GN.out GT.out BC.out hb); have hz0 : w3.cell? ⟨gp, 0, none⟩ = some (.slice none 0 0) := (blk_cell hbox 0).trans rfl; have hz1 : w3.cell? ⟨gp, 1, none⟩ = some (.slice none 0 0) := (blk_cell hbox 1).trans rfl; have hzf0 := blk_frozen hbox 0; have hzf1 := blk_frozen hbox 1; clear hgp hbox hb))
 generalize eW : (w3.setCell ⟨gp, 0, none⟩ (.slice AN ns.length cN)).setCell ⟨gp, 1, none⟩ (.slice AT ts.length cT) = W at HQ ⊢
 clear eW hz0 hz1 hzf0 hzf1 GN GT BC BQ2 BQ BA GQ
 have hP0 : W.cell? ⟨gp, 0, none⟩ = some (.slice AN ns.length cN) := (blk_cell HQ.out.bp 0).trans rfl
 have hP1 : W.cell? ⟨gp, 1, none⟩ = some (.slice AT ts.length cT) := (blk_cell HQ.out.bp 1).trans rfl
 have hq0 : W.cell? ⟨gq, 0, none⟩ = some (.int .i64 0) := (blk_cell HQ.out.bq 0).trans rfl
 have hqf0 := blk_frozen HQ.out.bq 0
 have hq1 : W.cell? ⟨gq, 1, none⟩ = some (.int .i64 0) := (blk_cell HQ.out.bq 1).trans rfl
 have hqf1 := blk_frozen HQ.out.bq 1
 have hq2 : W.cell? ⟨gq, 2, none⟩ = some (.int .i64 0) := (blk_cell HQ.out.bq 2).trans rfl
 have hqf2 := blk_frozen HQ.out.bq 2
 have hq3 : W.cell? ⟨gq, 3, none⟩ = some (.int .i64 0) := (blk_cell HQ.out.bq 3).trans rfl
 have hqf3 := blk_frozen HQ.out.bq 3
 have hq4 : W.cell? ⟨gq, 4, none⟩ = some (.string (⟨#[]⟩ : ByteArray)) := (blk_cell HQ.out.bq 4).trans rfl
 have hqf4 := blk_frozen HQ.out.bq 4
 have hq5 : W.cell? ⟨gq, 5, none⟩ = some (.string (⟨#[]⟩ : ByteArray)) := (blk_cell HQ.out.bq 5).trans rfl
 have hqf5 := blk_frozen HQ.out.bq 5
 have hq6 : W.cell? ⟨gq, 6, none⟩ = some (.bool false) := (blk_cell HQ.out.bq 6).trans rfl
 have hqf6 := blk_frozen HQ.out.bq 6
 have hq7 : W.cell? ⟨gq, 7, none⟩ = some (.slice none 0 0) := (blk_cell HQ.out.bq 7).trans rfl
 have hqf7 := blk_frozen HQ.out.bq 7
 have hq8 : W.cell? ⟨gq, 8, none⟩ = some (.slice none 0 0) := (blk_cell HQ.out.bq 8).trans rfl
 have hqf8 := blk_frozen HQ.out.bq 8
 obtain ⟨gn, cn, eN, gnb, gnl, cellsN, hcN⟩ := Kd.R_form HQ.out.ns (by omega)
 obtain ⟨gt, ct, eT, gtb, gtl, cellsT, hcT⟩ := Kd.R_form HQ.out.ts (by omega)
 have eN' : AN = some ⟨gn, 0, none⟩ ∧ cN = cn := by simpa using eN
 have eT' : AT = some ⟨gt, 0, none⟩ ∧ cT = ct := by simpa using eT
 obtain ⟨rfl, rfl⟩ := eN'
 obtain ⟨rfl, rfl⟩ := eT'
 obtain ⟨_, hcapN, hCN⟩ := Kd.R_reads' HQ.out.ns
 obtain ⟨_, hcapT, hCT⟩ := Kd.R_reads' HQ.out.ts
 clear eN eT hcN hcT gnb gnl gtb gtl
 obtain ⟨_, eA, hn0⟩ := Kd.at_int hCN 0 (by decide) (by omega)
 cases eA
 replace hn0 : W.cell? ⟨gn, 0, none⟩ = some (.int .i64 (rd ns 0)) := by simpa [add_plain] using hn0
 obtain ⟨_, eA, hn1⟩ := Kd.at_int hCN 1 (by decide) (by omega)
 cases eA
 replace hn1 : W.cell? ⟨gn, 1, none⟩ = some (.int .i64 (rd ns 1)) := by simpa [add_plain] using hn1
 obtain ⟨_, eA, hn2⟩ := Kd.at_int hCN 2 (by decide) (by omega)
 cases eA
 replace hn2 : W.cell? ⟨gn, 2, none⟩ = some (.int .i64 (rd ns 2)) := by simpa [add_plain] using hn2
 obtain ⟨_, eA, hn3⟩ := Kd.at_int hCN 3 (by decide) (by omega)
 cases eA
 replace hn3 : W.cell? ⟨gn, 3, none⟩ = some (.int .i64 (rd ns 3)) := by simpa [add_plain] using hn3
 obtain ⟨_, eA, hn4⟩ := Kd.at_int hCN 4 (by decide) (by omega)
 cases eA
 replace hn4 : W.cell? ⟨gn, 4, none⟩ = some (.int .i64 (rd ns 4)) := by simpa [add_plain] using hn4
 obtain ⟨_, eA, hn5⟩ := Kd.at_int hCN 5 (by decide) (by omega)
 cases eA
 replace hn5 : W.cell? ⟨gn, 5, none⟩ = some (.int .i64 (rd ns 5)) := by simpa [add_plain] using hn5
 obtain ⟨_, eA, ht0⟩ := Kd.at_string hCT 0 (by decide) (by omega)
 cases eA
 replace ht0 : W.cell? ⟨gt, 0, none⟩ = some (.string (rdOf ByteArray.empty ts 0)) := by simpa [add_plain] using ht0
 obtain ⟨_, eA, ht1⟩ := Kd.at_string hCT 1 (by decide) (by omega)
 cases eA
 replace ht1 : W.cell? ⟨gt, 1, none⟩ = some (.string (rdOf ByteArray.empty ts 1)) := by simpa [add_plain] using ht1
 go_wp2
 obtain ⟨i3, hi3, hz3⟩ := Option.map_eq_some_iff.1 info3
 have hs3 : i3.size = 1 := by simpa using congrArg (fun x => x.2.1) hz3
 have hcutN := fun W => cut_from (P := Try.prog) 46 3 .i64 Try.underlying46 hi3 1 hs3 (some ⟨gn, 0, none⟩) ns.length cN 6 (by decide) (by omega) W
 have hsameN : (if cN = (6 : Int).toNat then (some ⟨gn, 0, none⟩ : Option Addr) else (some ⟨gn, 0, none⟩ : Option Addr).map (·.add ((6 : Int).toNat * 1))) = (if cN = 6 then (some ⟨gn, 0, none⟩ : Option Addr) else (some ⟨gn, 0, none⟩ : Option Addr).map (·.add (6 * (Kd.int .i64).sz))) := rfl
 rw [hsameN] at hcutN
 obtain ⟨AF, hAF⟩ : ∃ A, A = (if cN = 6 then (some ⟨gn, 0, none⟩ : Option Addr) else (some ⟨gn, 0, none⟩ : Option Addr).map (·.add (6 * (Kd.int .i64).sz))) := ⟨_, rfl⟩
 rw [← hAF] at hcutN
 have HMF : Aside0 (∀ W', (Kd.int .i64).C W' (some ⟨gn, 0, none⟩) ns.length ns → (Kd.int .i64).C W' AF (ns.drop 6).length (ns.drop 6)) := ⟨fun W' h => by rw [hAF]; exact Kd.C_drop (m := 6) h (by omega) hcapN⟩
 have q5 : (6 : Int) ≤ (ns.length : Int) := by omega
 have j5_ : (5 : Int) < (ns.length : Int) := by omega
 have jj5_ : 5 < ns.length := by omega
 have jn : ¬ (ns = []) := fun h => by rw [h] at hl7; exact absurd hl7 (by decide)
 have HCAPN := Aside0.mk hcapN
 have HCAP := Aside0.mk hcapT
 clear hsameN hAF hs3 hz3 hi3 hcapN hcapT hCN hCT
 go_region_held3 (fun W => W.cell? ⟨gp, 0, none⟩ = some (.slice (some ⟨gn, 0, none⟩) ns.length cN) ∧ W.cell? ⟨gn, 5, none⟩ = some (.int .i64 (rd ns 5))) (go_keep) (fail)
 have HQ1 := Aside0.mk HQ.out.drew
 generalize eW : W.drew = W1 at HQ1 ⊢
 clear eW HQ hP0 hP1 hn0 hn1 hn2 hn3 hn4 hn5 ht0 ht1 hq0 hqf0 hq1 hqf1 hq2 hqf2 hq3 hqf3 hq4 hqf4 hq5 hqf5 hq6 hqf6 hq7 hqf7 hq8 hqf8
 have hq0 : W1.cell? ⟨gq, 0, none⟩ = some (.int .i64 0) := (blk_cell HQ1.out.bq 0).trans rfl
 have hqf0 := blk_frozen HQ1.out.bq 0
 have hq1 : W1.cell? ⟨gq, 1, none⟩ = some (.int .i64 0) := (blk_cell HQ1.out.bq 1).trans rfl
 have hqf1 := blk_frozen HQ1.out.bq 1
 have hq2 : W1.cell? ⟨gq, 2, none⟩ = some (.int .i64 0) := (blk_cell HQ1.out.bq 2).trans rfl
 have hqf2 := blk_frozen HQ1.out.bq 2
 have hq3 : W1.cell? ⟨gq, 3, none⟩ = some (.int .i64 0) := (blk_cell HQ1.out.bq 3).trans rfl
 have hqf3 := blk_frozen HQ1.out.bq 3
 have hq4 : W1.cell? ⟨gq, 4, none⟩ = some (.string (⟨#[]⟩ : ByteArray)) := (blk_cell HQ1.out.bq 4).trans rfl
 have hqf4 := blk_frozen HQ1.out.bq 4
 have hq5 : W1.cell? ⟨gq, 5, none⟩ = some (.string (⟨#[]⟩ : ByteArray)) := (blk_cell HQ1.out.bq 5).trans rfl
 have hqf5 := blk_frozen HQ1.out.bq 5
 have hq6 : W1.cell? ⟨gq, 6, none⟩ = some (.bool false) := (blk_cell HQ1.out.bq 6).trans rfl
 have hqf6 := blk_frozen HQ1.out.bq 6
 have hq7 : W1.cell? ⟨gq, 7, none⟩ = some (.slice none 0 0) := (blk_cell HQ1.out.bq 7).trans rfl
 have hqf7 := blk_frozen HQ1.out.bq 7
 have hq8 : W1.cell? ⟨gq, 8, none⟩ = some (.slice none 0 0) := (blk_cell HQ1.out.bq 8).trans rfl
 have hqf8 := blk_frozen HQ1.out.bq 8
 have hP0 : W1.cell? ⟨gp, 0, none⟩ = some (.slice (some ⟨gn, 0, none⟩) ns.length cN) := (blk_cell HQ1.out.bp 0).trans rfl
 have hP1 : W1.cell? ⟨gp, 1, none⟩ = some (.slice (some ⟨gt, 0, none⟩) ts.length cT) := (blk_cell HQ1.out.bp 1).trans rfl
 go_wp2
 refine bodyPost_ret (results_ct rfl _ _ gq 25 #[.int .i64 0, .int .i64 0, .int .i64 0, .int .i64 0, .string (⟨#[]⟩ : ByteArray), .string (⟨#[]⟩ : ByteArray), .bool false, .slice none 0 0, .slice none 0 0] (0, 0) _ rfl (set9 HQ1.out.bq) Try.underlying25 rfl (by kernel_rfl)) rfl ?_
 exact ⟨rfl, below9 HQ1.out.bel HQ1.out.geq⟩
set_option maxHeartbeats 4000000 in
set_option maxRecDepth 100000 in
theorem ld_m3 (s : ByteArray) (ns : List Int) (ts : List ByteArray) (p : Int) (w : World) (hf : pack_Decode.f s = some (ns, ts, p, 0)) (hn : 6 ≤ ns.length) (ht : 2 ≤ ts.length) (hb : ts.length ≤ 1024) (hbn : ns.length ≤ 1024) (hm : 0 ≤ rd ns 5) (hm2 : rd ns 5 ≤ (ts.length : Int) - 2) (hx : (ts.length : Int) ≠ 2 + rd ns 5 + 2 * ((ns.length - 6 : Nat) : Int)) :
  Calls Try.prog 18 #[.string s] w (NoLetE w) := by
 have e1 : decide ((ns.length : Int) < 6) = false := decide_eq_false (by omega)
 have e2 : decide (ns.length < 6) = false := decide_eq_false (by omega)
 have e3 : decide ((ts.length : Int) < 2) = false := decide_eq_false (by omega)
 have e4 : decide (ts.length < 2) = false := decide_eq_false (by omega)
 have e5 : ¬ (ts.length = 0) := by omega
 have e6 : ¬ (ts = []) := fun h => by rw [h] at ht; exact absurd ht (by decide)
 have hl7 := hn
 have hl1 := ht
 have m1 : decide (rd ns 5 < 0) = false := decide_eq_false (by omega)
 have m2 : decide ((ts.length : Int) - 2 < rd ns 5) = false := decide_eq_false (by omega)
 have mb : rd ns 5 ≤ 1024 := by omega
 have m3 : ((ts.length : Int) == 2 + rd ns 5 + 2 * ((ns.length - 6 : Nat) : Int)) = false := beq_eq_false_iff_ne.2 hx
 have m4 : ((ts.length : Int) != 2 + rd ns 5 + 2 * ((ns.length - 6 : Nat) : Int)) = true := bne_iff_ne.2 hx
 clear hn ht hx
 have hu25 := Try.underlying25
 have hu48 := Try.underlying48
 have HF := Aside0.mk hf
 clear hf
 go_enter Try.func18, Try.ntmps18
 go_upto_region 2 with (first | ((with_reducible refine gate_dst (N := 2) rfl ?_); refine box_event ?hg (N := 2) ?hd (cs := #[.int .i64 0, .int .i64 0, .int .i64 0, .int .i64 0, .string (⟨#[]⟩ : ByteArray), .string (⟨#[]⟩ : ByteArray), .bool false, .slice none 0 0, .slice none 0 0]) (t := 25) ?hr ?_; (case hd => rfl); (case hg => rfl); (case hr => first | (go_simp; done) | (go_simp; rfl)); intro gq hgg w1 hbox hb; have GQ := Aside0.mk (Nat.le_of_eq hgg.symm); have BQ := Aside0.mk hbox; have BA := Aside0.mk hb; clear hgg hbox hb) | (go_at_call 36; refine (pack_Decode.calls s _ _ _ _ _ HF.out).mono ?_; rintro x w2 ⟨v0, v1, rfl, hN, hT, hb⟩; obtain ⟨AN, cN, eN⟩ := Kd.R_slice hN; subst eN; obtain ⟨AT, cT, eT⟩ := Kd.R_slice hT; subst eT; have GN := Aside0.mk (Kd.R_lower hN (below_size BA.out)); have GT := Aside0.mk (Kd.R_lower hT (below_size BA.out)); have BC := Aside0.mk (below_step BA.out hb); have BQ2 := Aside0.mk (blk_below BQ.out hb); clear hN hT hb) | ((with_reducible refine gate_dst (N := 4) rfl ?_); refine box_event ?hg (N := 4) ?hd (cs := #[.slice none 0 0, .slice none 0 0]) (t := 48) ?hr ?_; (case hd => rfl); (case hg => rfl); (case hr => first | (go_simp; done) | (go_simp; rfl)); intro gp hgp w3 hbox hb; have HQ := Aside0.mk (qr_of GQ.out BQ2.out hbox hgp GN.out GT.out BC.out hb); have hz0 : w3.cell? ⟨gp, 0, none⟩ = some (.slice none 0 0) := (blk_cell hbox 0).trans rfl; have hz1 : w3.cell? ⟨gp, 1, none⟩ = some (.slice none 0 0) := (blk_cell hbox 1).trans rfl; have hzf0 := blk_frozen hbox 0; have hzf1 := blk_frozen hbox 1; clear hgp hbox hb))
 generalize eW : (w3.setCell ⟨gp, 0, none⟩ (.slice AN ns.length cN)).setCell ⟨gp, 1, none⟩ (.slice AT ts.length cT) = W at HQ ⊢
 clear eW hz0 hz1 hzf0 hzf1 GN GT BC BQ2 BQ BA GQ
 have hP0 : W.cell? ⟨gp, 0, none⟩ = some (.slice AN ns.length cN) := (blk_cell HQ.out.bp 0).trans rfl
 have hP1 : W.cell? ⟨gp, 1, none⟩ = some (.slice AT ts.length cT) := (blk_cell HQ.out.bp 1).trans rfl
 have hq0 : W.cell? ⟨gq, 0, none⟩ = some (.int .i64 0) := (blk_cell HQ.out.bq 0).trans rfl
 have hqf0 := blk_frozen HQ.out.bq 0
 have hq1 : W.cell? ⟨gq, 1, none⟩ = some (.int .i64 0) := (blk_cell HQ.out.bq 1).trans rfl
 have hqf1 := blk_frozen HQ.out.bq 1
 have hq2 : W.cell? ⟨gq, 2, none⟩ = some (.int .i64 0) := (blk_cell HQ.out.bq 2).trans rfl
 have hqf2 := blk_frozen HQ.out.bq 2
 have hq3 : W.cell? ⟨gq, 3, none⟩ = some (.int .i64 0) := (blk_cell HQ.out.bq 3).trans rfl
 have hqf3 := blk_frozen HQ.out.bq 3
 have hq4 : W.cell? ⟨gq, 4, none⟩ = some (.string (⟨#[]⟩ : ByteArray)) := (blk_cell HQ.out.bq 4).trans rfl
 have hqf4 := blk_frozen HQ.out.bq 4
 have hq5 : W.cell? ⟨gq, 5, none⟩ = some (.string (⟨#[]⟩ : ByteArray)) := (blk_cell HQ.out.bq 5).trans rfl
 have hqf5 := blk_frozen HQ.out.bq 5
 have hq6 : W.cell? ⟨gq, 6, none⟩ = some (.bool false) := (blk_cell HQ.out.bq 6).trans rfl
 have hqf6 := blk_frozen HQ.out.bq 6
 have hq7 : W.cell? ⟨gq, 7, none⟩ = some (.slice none 0 0) := (blk_cell HQ.out.bq 7).trans rfl
 have hqf7 := blk_frozen HQ.out.bq 7
 have hq8 : W.cell? ⟨gq, 8, none⟩ = some (.slice none 0 0) := (blk_cell HQ.out.bq 8).trans rfl
 have hqf8 := blk_frozen HQ.out.bq 8
 obtain ⟨gn, cn, eN, gnb, gnl, cellsN, hcN⟩ := Kd.R_form HQ.out.ns (by omega)
 obtain ⟨gt, ct, eT, gtb, gtl, cellsT, hcT⟩ := Kd.R_form HQ.out.ts (by omega)
 have eN' : AN = some ⟨gn, 0, none⟩ ∧ cN = cn := by simpa using eN
 have eT' : AT = some ⟨gt, 0, none⟩ ∧ cT = ct := by simpa using eT
 obtain ⟨rfl, rfl⟩ := eN'
 obtain ⟨rfl, rfl⟩ := eT'
 obtain ⟨_, hcapN, hCN⟩ := Kd.R_reads' HQ.out.ns
 obtain ⟨_, hcapT, hCT⟩ := Kd.R_reads' HQ.out.ts
 clear eN eT hcN hcT gnb gnl gtb gtl
 obtain ⟨_, eA, hn0⟩ := Kd.at_int hCN 0 (by decide) (by omega)
 cases eA
 replace hn0 : W.cell? ⟨gn, 0, none⟩ = some (.int .i64 (rd ns 0)) := by simpa [add_plain] using hn0
 obtain ⟨_, eA, hn1⟩ := Kd.at_int hCN 1 (by decide) (by omega)
 cases eA
 replace hn1 : W.cell? ⟨gn, 1, none⟩ = some (.int .i64 (rd ns 1)) := by simpa [add_plain] using hn1
 obtain ⟨_, eA, hn2⟩ := Kd.at_int hCN 2 (by decide) (by omega)
 cases eA
 replace hn2 : W.cell? ⟨gn, 2, none⟩ = some (.int .i64 (rd ns 2)) := by simpa [add_plain] using hn2
 obtain ⟨_, eA, hn3⟩ := Kd.at_int hCN 3 (by decide) (by omega)
 cases eA
 replace hn3 : W.cell? ⟨gn, 3, none⟩ = some (.int .i64 (rd ns 3)) := by simpa [add_plain] using hn3
 obtain ⟨_, eA, hn4⟩ := Kd.at_int hCN 4 (by decide) (by omega)
 cases eA
 replace hn4 : W.cell? ⟨gn, 4, none⟩ = some (.int .i64 (rd ns 4)) := by simpa [add_plain] using hn4
 obtain ⟨_, eA, hn5⟩ := Kd.at_int hCN 5 (by decide) (by omega)
 cases eA
 replace hn5 : W.cell? ⟨gn, 5, none⟩ = some (.int .i64 (rd ns 5)) := by simpa [add_plain] using hn5
 obtain ⟨_, eA, ht0⟩ := Kd.at_string hCT 0 (by decide) (by omega)
 cases eA
 replace ht0 : W.cell? ⟨gt, 0, none⟩ = some (.string (rdOf ByteArray.empty ts 0)) := by simpa [add_plain] using ht0
 obtain ⟨_, eA, ht1⟩ := Kd.at_string hCT 1 (by decide) (by omega)
 cases eA
 replace ht1 : W.cell? ⟨gt, 1, none⟩ = some (.string (rdOf ByteArray.empty ts 1)) := by simpa [add_plain] using ht1
 go_wp2
 obtain ⟨i3, hi3, hz3⟩ := Option.map_eq_some_iff.1 info3
 have hs3 : i3.size = 1 := by simpa using congrArg (fun x => x.2.1) hz3
 have hcutN := fun W => cut_from (P := Try.prog) 46 3 .i64 Try.underlying46 hi3 1 hs3 (some ⟨gn, 0, none⟩) ns.length cN 6 (by decide) (by omega) W
 have hsameN : (if cN = (6 : Int).toNat then (some ⟨gn, 0, none⟩ : Option Addr) else (some ⟨gn, 0, none⟩ : Option Addr).map (·.add ((6 : Int).toNat * 1))) = (if cN = 6 then (some ⟨gn, 0, none⟩ : Option Addr) else (some ⟨gn, 0, none⟩ : Option Addr).map (·.add (6 * (Kd.int .i64).sz))) := rfl
 rw [hsameN] at hcutN
 obtain ⟨AF, hAF⟩ : ∃ A, A = (if cN = 6 then (some ⟨gn, 0, none⟩ : Option Addr) else (some ⟨gn, 0, none⟩ : Option Addr).map (·.add (6 * (Kd.int .i64).sz))) := ⟨_, rfl⟩
 rw [← hAF] at hcutN
 have HMF : Aside0 (∀ W', (Kd.int .i64).C W' (some ⟨gn, 0, none⟩) ns.length ns → (Kd.int .i64).C W' AF (ns.drop 6).length (ns.drop 6)) := ⟨fun W' h => by rw [hAF]; exact Kd.C_drop (m := 6) h (by omega) hcapN⟩
 have q5 : (6 : Int) ≤ (ns.length : Int) := by omega
 have j5_ : (5 : Int) < (ns.length : Int) := by omega
 have jj5_ : 5 < ns.length := by omega
 have jn : ¬ (ns = []) := fun h => by rw [h] at hl7; exact absurd hl7 (by decide)
 have HCAPN := Aside0.mk hcapN
 have HCAP := Aside0.mk hcapT
 clear hsameN hAF hs3 hz3 hi3 hcapN hcapT hCN hCT
 go_region_held3 (fun W => W.cell? ⟨gp, 0, none⟩ = some (.slice (some ⟨gn, 0, none⟩) ns.length cN) ∧ W.cell? ⟨gn, 5, none⟩ = some (.int .i64 (rd ns 5))) (go_keep) (fail)
 have HQ1 := Aside0.mk HQ.out.drew
 generalize eW : W.drew = W1 at HQ1 ⊢
 clear eW HQ hP0 hP1 hn0 hn1 hn2 hn3 hn4 hn5 ht0 ht1 hq0 hqf0 hq1 hqf1 hq2 hqf2 hq3 hqf3 hq4 hqf4 hq5 hqf5 hq6 hqf6 hq7 hqf7 hq8 hqf8
 have hq0 : W1.cell? ⟨gq, 0, none⟩ = some (.int .i64 0) := (blk_cell HQ1.out.bq 0).trans rfl
 have hqf0 := blk_frozen HQ1.out.bq 0
 have hq1 : W1.cell? ⟨gq, 1, none⟩ = some (.int .i64 0) := (blk_cell HQ1.out.bq 1).trans rfl
 have hqf1 := blk_frozen HQ1.out.bq 1
 have hq2 : W1.cell? ⟨gq, 2, none⟩ = some (.int .i64 0) := (blk_cell HQ1.out.bq 2).trans rfl
 have hqf2 := blk_frozen HQ1.out.bq 2
 have hq3 : W1.cell? ⟨gq, 3, none⟩ = some (.int .i64 0) := (blk_cell HQ1.out.bq 3).trans rfl
 have hqf3 := blk_frozen HQ1.out.bq 3
 have hq4 : W1.cell? ⟨gq, 4, none⟩ = some (.string (⟨#[]⟩ : ByteArray)) := (blk_cell HQ1.out.bq 4).trans rfl
 have hqf4 := blk_frozen HQ1.out.bq 4
 have hq5 : W1.cell? ⟨gq, 5, none⟩ = some (.string (⟨#[]⟩ : ByteArray)) := (blk_cell HQ1.out.bq 5).trans rfl
 have hqf5 := blk_frozen HQ1.out.bq 5
 have hq6 : W1.cell? ⟨gq, 6, none⟩ = some (.bool false) := (blk_cell HQ1.out.bq 6).trans rfl
 have hqf6 := blk_frozen HQ1.out.bq 6
 have hq7 : W1.cell? ⟨gq, 7, none⟩ = some (.slice none 0 0) := (blk_cell HQ1.out.bq 7).trans rfl
 have hqf7 := blk_frozen HQ1.out.bq 7
 have hq8 : W1.cell? ⟨gq, 8, none⟩ = some (.slice none 0 0) := (blk_cell HQ1.out.bq 8).trans rfl
 have hqf8 := blk_frozen HQ1.out.bq 8
 have hP0 : W1.cell? ⟨gp, 0, none⟩ = some (.slice (some ⟨gn, 0, none⟩) ns.length cN) := (blk_cell HQ1.out.bp 0).trans rfl
 have hP1 : W1.cell? ⟨gp, 1, none⟩ = some (.slice (some ⟨gt, 0, none⟩) ts.length cT) := (blk_cell HQ1.out.bp 1).trans rfl
 go_wp2
 refine bodyPost_ret (results_ct rfl _ _ gq 25 #[.int .i64 0, .int .i64 0, .int .i64 0, .int .i64 0, .string (⟨#[]⟩ : ByteArray), .string (⟨#[]⟩ : ByteArray), .bool false, .slice none 0 0, .slice none 0 0] (0, 0) _ rfl (set9 HQ1.out.bq) Try.underlying25 rfl (by kernel_rfl)) rfl ?_
 exact ⟨rfl, below9 HQ1.out.bel HQ1.out.geq⟩
/-- What comes back, with its memory. -/
def RLetE (w : World) (r : RLet) (e : Ending) (w' : World) : Prop := ∃ v7 v8 : Value, e = .returned (.tuple #[.agg #[.int .i64 r.1, .int .i64 r.2.1, .int .i64 r.2.2.1, .int .i64 r.2.2.2.1, .string r.2.2.2.2.1, .string r.2.2.2.2.2.1, .bool r.2.2.2.2.2.2.1, v7, v8], .int .i64 r.2.2.2.2.2.2.2.2.2]) ∧ Kd.R Kd.string 9 w' w.heap.size (fun _ => True) v7 r.2.2.2.2.2.2.2.1 ∧ Kd.R k50 50 w' w.heap.size (fun _ => True) v8 r.2.2.2.2.2.2.2.2.1 ∧ Below w.heap.size w w'
set_option maxHeartbeats 4000000 in
set_option maxRecDepth 100000 in
theorem ld_go (s : ByteArray) (ns : List Int) (ts : List ByteArray) (p : Int) (w : World) (hf : pack_Decode.f s = some (ns, ts, p, 0)) (hn : 6 ≤ ns.length) (ht : 2 ≤ ts.length) (hb : ts.length ≤ 1024) (hbn : ns.length ≤ 1024) (hm : 0 ≤ rd ns 5) (hm2 : rd ns 5 ≤ (ts.length : Int) - 2) (hx : (ts.length : Int) = 2 + rd ns 5 + 2 * ((ns.length - 6 : Nat) : Int)) (k : Nat) (bb : ByteArray) (ee : Int) (hen : record_Encode.f k (rd ns 0) (rd ns 1) (rd ns 2) (rd ns 3) (rdOf ByteArray.empty ts 0) (rdOf ByteArray.empty ts 1) (rd ns 4 == 1) ((ts.take (2 + rd ns 5).toNat).drop 2) (wsOf (ns.drop 6) (ts.drop (2 + rd ns 5).toNat) (ns.length - 6)) = some (bb, ee)) (r : RLet) (HRR : (if ee = 0 ∧ bb = s then (((rd ns 0), (rd ns 1), (rd ns 2), (rd ns 3), (rdOf ByteArray.empty ts 0), (rdOf ByteArray.empty ts 1), (rd ns 4 == 1), ((ts.take (2 + rd ns 5).toNat).drop 2), wsOf (ns.drop 6) (ts.drop (2 + rd ns 5).toNat) (ns.length - 6), 0) : RLet) else noLet) = r) :
  Calls Try.prog 18 #[.string s] w (RLetE w r) := by
 have e1 : decide ((ns.length : Int) < 6) = false := decide_eq_false (by omega)
 have e2 : decide (ns.length < 6) = false := decide_eq_false (by omega)
 have e3 : decide ((ts.length : Int) < 2) = false := decide_eq_false (by omega)
 have e4 : decide (ts.length < 2) = false := decide_eq_false (by omega)
 have e5 : ¬ (ts.length = 0) := by omega
 have e6 : ¬ (ts = []) := fun h => by rw [h] at ht; exact absurd ht (by decide)
 have hl7 := hn
 have hl1 := ht
 have m1 : decide (rd ns 5 < 0) = false := decide_eq_false (by omega)
 have m2 : decide ((ts.length : Int) - 2 < rd ns 5) = false := decide_eq_false (by omega)
 have mb : rd ns 5 ≤ 1024 := by omega
 have HX := Aside0.mk hx
 have m3 : ((ts.length : Int) == 2 + rd ns 5 + 2 * ((ns.length - 6 : Nat) : Int)) = true := beq_iff_eq.2 hx
 have m4 : ((ts.length : Int) != 2 + rd ns 5 + 2 * ((ns.length - 6 : Nat) : Int)) = false := bne_eq_false_iff_eq.2 hx
 clear hn ht hx
 have HEN := Aside0.mk hen
 clear hen
 have hu25 := Try.underlying25
 have hu48 := Try.underlying48
 have HF := Aside0.mk hf
 clear hf
 go_enter Try.func18, Try.ntmps18
 go_upto_region 2 with (first | ((with_reducible refine gate_dst (N := 2) rfl ?_); refine box_event ?hg (N := 2) ?hd (cs := #[.int .i64 0, .int .i64 0, .int .i64 0, .int .i64 0, .string (⟨#[]⟩ : ByteArray), .string (⟨#[]⟩ : ByteArray), .bool false, .slice none 0 0, .slice none 0 0]) (t := 25) ?hr ?_; (case hd => rfl); (case hg => rfl); (case hr => first | (go_simp; done) | (go_simp; rfl)); intro gq hgg w1 hbox hb; have GQ := Aside0.mk (Nat.le_of_eq hgg.symm); have BQ := Aside0.mk hbox; have BA := Aside0.mk hb; clear hgg hbox hb) | (go_at_call 36; refine (pack_Decode.calls s _ _ _ _ _ HF.out).mono ?_; rintro x w2 ⟨v0, v1, rfl, hN, hT, hb⟩; obtain ⟨AN, cN, eN⟩ := Kd.R_slice hN; subst eN; obtain ⟨AT, cT, eT⟩ := Kd.R_slice hT; subst eT; have GN := Aside0.mk (Kd.R_lower hN (below_size BA.out)); have GT := Aside0.mk (Kd.R_lower hT (below_size BA.out)); have BC := Aside0.mk (below_step BA.out hb); have BQ2 := Aside0.mk (blk_below BQ.out hb); clear hN hT hb) | ((with_reducible refine gate_dst (N := 4) rfl ?_); refine box_event ?hg (N := 4) ?hd (cs := #[.slice none 0 0, .slice none 0 0]) (t := 48) ?hr ?_; (case hd => rfl); (case hg => rfl); (case hr => first | (go_simp; done) | (go_simp; rfl)); intro gp hgp w3 hbox hb; have HQ := Aside0.mk (qr_of GQ.out BQ2.out hbox hgp GN.out GT.out BC.out hb); have hz0 : w3.cell? ⟨gp, 0, none⟩ = some (.slice none 0 0) := (blk_cell hbox 0).trans rfl; have hz1 : w3.cell? ⟨gp, 1, none⟩ = some (.slice none 0 0) := (blk_cell hbox 1).trans rfl; have hzf0 := blk_frozen hbox 0; have hzf1 := blk_frozen hbox 1; clear hgp hbox hb))
 generalize eW : (w3.setCell ⟨gp, 0, none⟩ (.slice AN ns.length cN)).setCell ⟨gp, 1, none⟩ (.slice AT ts.length cT) = W at HQ ⊢
 clear eW hz0 hz1 hzf0 hzf1 GN GT BC BQ2 BQ BA GQ
 have hP0 : W.cell? ⟨gp, 0, none⟩ = some (.slice AN ns.length cN) := (blk_cell HQ.out.bp 0).trans rfl
 have hP1 : W.cell? ⟨gp, 1, none⟩ = some (.slice AT ts.length cT) := (blk_cell HQ.out.bp 1).trans rfl
 have hq0 : W.cell? ⟨gq, 0, none⟩ = some (.int .i64 0) := (blk_cell HQ.out.bq 0).trans rfl
 have hqf0 := blk_frozen HQ.out.bq 0
 have hq1 : W.cell? ⟨gq, 1, none⟩ = some (.int .i64 0) := (blk_cell HQ.out.bq 1).trans rfl
 have hqf1 := blk_frozen HQ.out.bq 1
 have hq2 : W.cell? ⟨gq, 2, none⟩ = some (.int .i64 0) := (blk_cell HQ.out.bq 2).trans rfl
 have hqf2 := blk_frozen HQ.out.bq 2
 have hq3 : W.cell? ⟨gq, 3, none⟩ = some (.int .i64 0) := (blk_cell HQ.out.bq 3).trans rfl
 have hqf3 := blk_frozen HQ.out.bq 3
 have hq4 : W.cell? ⟨gq, 4, none⟩ = some (.string (⟨#[]⟩ : ByteArray)) := (blk_cell HQ.out.bq 4).trans rfl
 have hqf4 := blk_frozen HQ.out.bq 4
 have hq5 : W.cell? ⟨gq, 5, none⟩ = some (.string (⟨#[]⟩ : ByteArray)) := (blk_cell HQ.out.bq 5).trans rfl
 have hqf5 := blk_frozen HQ.out.bq 5
 have hq6 : W.cell? ⟨gq, 6, none⟩ = some (.bool false) := (blk_cell HQ.out.bq 6).trans rfl
 have hqf6 := blk_frozen HQ.out.bq 6
 have hq7 : W.cell? ⟨gq, 7, none⟩ = some (.slice none 0 0) := (blk_cell HQ.out.bq 7).trans rfl
 have hqf7 := blk_frozen HQ.out.bq 7
 have hq8 : W.cell? ⟨gq, 8, none⟩ = some (.slice none 0 0) := (blk_cell HQ.out.bq 8).trans rfl
 have hqf8 := blk_frozen HQ.out.bq 8
 obtain ⟨gn, cn, eN, gnb, gnl, cellsN, hcN⟩ := Kd.R_form HQ.out.ns (by omega)
 obtain ⟨gt, ct, eT, gtb, gtl, cellsT, hcT⟩ := Kd.R_form HQ.out.ts (by omega)
 have eN' : AN = some ⟨gn, 0, none⟩ ∧ cN = cn := by simpa using eN
 have eT' : AT = some ⟨gt, 0, none⟩ ∧ cT = ct := by simpa using eT
 obtain ⟨rfl, rfl⟩ := eN'
 obtain ⟨rfl, rfl⟩ := eT'
 obtain ⟨_, hcapN, hCN⟩ := Kd.R_reads' HQ.out.ns
 obtain ⟨_, hcapT, hCT⟩ := Kd.R_reads' HQ.out.ts
 clear eN eT hcN hcT gnb gnl gtb gtl
 obtain ⟨_, eA, hn0⟩ := Kd.at_int hCN 0 (by decide) (by omega)
 cases eA
 replace hn0 : W.cell? ⟨gn, 0, none⟩ = some (.int .i64 (rd ns 0)) := by simpa [add_plain] using hn0
 obtain ⟨_, eA, hn1⟩ := Kd.at_int hCN 1 (by decide) (by omega)
 cases eA
 replace hn1 : W.cell? ⟨gn, 1, none⟩ = some (.int .i64 (rd ns 1)) := by simpa [add_plain] using hn1
 obtain ⟨_, eA, hn2⟩ := Kd.at_int hCN 2 (by decide) (by omega)
 cases eA
 replace hn2 : W.cell? ⟨gn, 2, none⟩ = some (.int .i64 (rd ns 2)) := by simpa [add_plain] using hn2
 obtain ⟨_, eA, hn3⟩ := Kd.at_int hCN 3 (by decide) (by omega)
 cases eA
 replace hn3 : W.cell? ⟨gn, 3, none⟩ = some (.int .i64 (rd ns 3)) := by simpa [add_plain] using hn3
 obtain ⟨_, eA, hn4⟩ := Kd.at_int hCN 4 (by decide) (by omega)
 cases eA
 replace hn4 : W.cell? ⟨gn, 4, none⟩ = some (.int .i64 (rd ns 4)) := by simpa [add_plain] using hn4
 obtain ⟨_, eA, hn5⟩ := Kd.at_int hCN 5 (by decide) (by omega)
 cases eA
 replace hn5 : W.cell? ⟨gn, 5, none⟩ = some (.int .i64 (rd ns 5)) := by simpa [add_plain] using hn5
 obtain ⟨_, eA, ht0⟩ := Kd.at_string hCT 0 (by decide) (by omega)
 cases eA
 replace ht0 : W.cell? ⟨gt, 0, none⟩ = some (.string (rdOf ByteArray.empty ts 0)) := by simpa [add_plain] using ht0
 obtain ⟨_, eA, ht1⟩ := Kd.at_string hCT 1 (by decide) (by omega)
 cases eA
 replace ht1 : W.cell? ⟨gt, 1, none⟩ = some (.string (rdOf ByteArray.empty ts 1)) := by simpa [add_plain] using ht1
 go_wp2
 obtain ⟨i3, hi3, hz3⟩ := Option.map_eq_some_iff.1 info3
 have hs3 : i3.size = 1 := by simpa using congrArg (fun x => x.2.1) hz3
 have hcutN := fun W => cut_from (P := Try.prog) 46 3 .i64 Try.underlying46 hi3 1 hs3 (some ⟨gn, 0, none⟩) ns.length cN 6 (by decide) (by omega) W
 have hsameN : (if cN = (6 : Int).toNat then (some ⟨gn, 0, none⟩ : Option Addr) else (some ⟨gn, 0, none⟩ : Option Addr).map (·.add ((6 : Int).toNat * 1))) = (if cN = 6 then (some ⟨gn, 0, none⟩ : Option Addr) else (some ⟨gn, 0, none⟩ : Option Addr).map (·.add (6 * (Kd.int .i64).sz))) := rfl
 rw [hsameN] at hcutN
 obtain ⟨AF, hAF⟩ : ∃ A, A = (if cN = 6 then (some ⟨gn, 0, none⟩ : Option Addr) else (some ⟨gn, 0, none⟩ : Option Addr).map (·.add (6 * (Kd.int .i64).sz))) := ⟨_, rfl⟩
 rw [← hAF] at hcutN
 have HMF : Aside0 (∀ W', (Kd.int .i64).C W' (some ⟨gn, 0, none⟩) ns.length ns → (Kd.int .i64).C W' AF (ns.drop 6).length (ns.drop 6)) := ⟨fun W' h => by rw [hAF]; exact Kd.C_drop (m := 6) h (by omega) hcapN⟩
 have q5 : (6 : Int) ≤ (ns.length : Int) := by omega
 have j5_ : (5 : Int) < (ns.length : Int) := by omega
 have jj5_ : 5 < ns.length := by omega
 have jn : ¬ (ns = []) := fun h => by rw [h] at hl7; exact absurd hl7 (by decide)
 have HCAPN := Aside0.mk hcapN
 have HCAP := Aside0.mk hcapT
 clear hsameN hAF hs3 hz3 hi3 hcapN hcapT hCN hCT
 go_region_held3 (fun W => W.cell? ⟨gp, 0, none⟩ = some (.slice (some ⟨gn, 0, none⟩) ns.length cN) ∧ W.cell? ⟨gn, 5, none⟩ = some (.int .i64 (rd ns 5))) (go_keep) (fail)
 have HQ1 := Aside0.mk HQ.out.drew
 generalize eW : W.drew = W1 at HQ1 ⊢
 clear eW HQ hP0 hP1 hn0 hn1 hn2 hn3 hn4 hn5 ht0 ht1 hq0 hqf0 hq1 hqf1 hq2 hqf2 hq3 hqf3 hq4 hqf4 hq5 hqf5 hq6 hqf6 hq7 hqf7 hq8 hqf8
 have hq0 : W1.cell? ⟨gq, 0, none⟩ = some (.int .i64 0) := (blk_cell HQ1.out.bq 0).trans rfl
 have hqf0 := blk_frozen HQ1.out.bq 0
 have hq1 : W1.cell? ⟨gq, 1, none⟩ = some (.int .i64 0) := (blk_cell HQ1.out.bq 1).trans rfl
 have hqf1 := blk_frozen HQ1.out.bq 1
 have hq2 : W1.cell? ⟨gq, 2, none⟩ = some (.int .i64 0) := (blk_cell HQ1.out.bq 2).trans rfl
 have hqf2 := blk_frozen HQ1.out.bq 2
 have hq3 : W1.cell? ⟨gq, 3, none⟩ = some (.int .i64 0) := (blk_cell HQ1.out.bq 3).trans rfl
 have hqf3 := blk_frozen HQ1.out.bq 3
 have hq4 : W1.cell? ⟨gq, 4, none⟩ = some (.string (⟨#[]⟩ : ByteArray)) := (blk_cell HQ1.out.bq 4).trans rfl
 have hqf4 := blk_frozen HQ1.out.bq 4
 have hq5 : W1.cell? ⟨gq, 5, none⟩ = some (.string (⟨#[]⟩ : ByteArray)) := (blk_cell HQ1.out.bq 5).trans rfl
 have hqf5 := blk_frozen HQ1.out.bq 5
 have hq6 : W1.cell? ⟨gq, 6, none⟩ = some (.bool false) := (blk_cell HQ1.out.bq 6).trans rfl
 have hqf6 := blk_frozen HQ1.out.bq 6
 have hq7 : W1.cell? ⟨gq, 7, none⟩ = some (.slice none 0 0) := (blk_cell HQ1.out.bq 7).trans rfl
 have hqf7 := blk_frozen HQ1.out.bq 7
 have hq8 : W1.cell? ⟨gq, 8, none⟩ = some (.slice none 0 0) := (blk_cell HQ1.out.bq 8).trans rfl
 have hqf8 := blk_frozen HQ1.out.bq 8
 have hP0 : W1.cell? ⟨gp, 0, none⟩ = some (.slice (some ⟨gn, 0, none⟩) ns.length cN) := (blk_cell HQ1.out.bp 0).trans rfl
 have hP1 : W1.cell? ⟨gp, 1, none⟩ = some (.slice (some ⟨gt, 0, none⟩) ts.length cT) := (blk_cell HQ1.out.bp 1).trans rfl
 obtain ⟨i9, hi9, hz9⟩ := Option.map_eq_some_iff.1 info9
 have hs9 : i9.size = 1 := by simpa using congrArg (fun x => x.2.1) hz9
 have hcut := fun W => cut_mid (P := Try.prog) 22 9 .i64 .i64 Try.underlying22 hi9 1 hs9 (some ⟨gt, 0, none⟩) ts.length cT 2 (2 + rd ns 5) (by decide) (by omega) (by omega) HCAP.out W
 have hsame : (if cT = (2 : Int).toNat then (some ⟨gt, 0, none⟩ : Option Addr) else (some ⟨gt, 0, none⟩ : Option Addr).map (·.add ((2 : Int).toNat * 1))) = (if cT = 2 then (some ⟨gt, 0, none⟩ : Option Addr) else (some ⟨gt, 0, none⟩ : Option Addr).map (·.add (2 * Kd.string.sz))) := rfl
 rw [hsame] at hcut
 obtain ⟨A7, hA7⟩ : ∃ A, A = (if cT = 2 then (some ⟨gt, 0, none⟩ : Option Addr) else (some ⟨gt, 0, none⟩ : Option Addr).map (·.add (2 * Kd.string.sz))) := ⟨_, rfl⟩
 rw [← hA7] at hcut
 have HM7 : Aside0 (∀ W', Kd.C Kd.string W' (some ⟨gt, 0, none⟩) ts.length ts → Kd.C Kd.string W' A7 ((ts.take (2 + rd ns 5).toNat).drop 2).length ((ts.take (2 + rd ns 5).toNat).drop 2)) := ⟨fun W' h => by rw [hA7]; exact Kd.C_mid (lo := 2) (hi := (2 + rd ns 5).toNat) h (by omega) (by omega) HCAP.out⟩
 have hcutT := fun W => cut_from (P := Try.prog) 22 9 .i64 Try.underlying22 hi9 1 hs9 (some ⟨gt, 0, none⟩) ts.length cT (2 + rd ns 5) (by omega) (by omega) W
 have hsameT : (if cT = (2 + rd ns 5).toNat then (some ⟨gt, 0, none⟩ : Option Addr) else (some ⟨gt, 0, none⟩ : Option Addr).map (·.add ((2 + rd ns 5).toNat * 1))) = (if cT = (2 + rd ns 5).toNat then (some ⟨gt, 0, none⟩ : Option Addr) else (some ⟨gt, 0, none⟩ : Option Addr).map (·.add ((2 + rd ns 5).toNat * Kd.string.sz))) := rfl
 rw [hsameT] at hcutT
 obtain ⟨AR, hAR⟩ : ∃ A, A = (if cT = (2 + rd ns 5).toNat then (some ⟨gt, 0, none⟩ : Option Addr) else (some ⟨gt, 0, none⟩ : Option Addr).map (·.add ((2 + rd ns 5).toNat * Kd.string.sz))) := ⟨_, rfl⟩
 rw [← hAR] at hcutT
 have HMR : Aside0 (∀ W', Kd.C Kd.string W' (some ⟨gt, 0, none⟩) ts.length ts → Kd.C Kd.string W' AR (ts.drop (2 + rd ns 5).toNat).length (ts.drop (2 + rd ns 5).toNat)) := ⟨fun W' h => by rw [hAR]; exact Kd.C_drop (m := (2 + rd ns 5).toNat) h (by omega) HCAP.out⟩
 have L7 := Aside0.mk (show (2 + rd ns 5).toNat - 2 = ((ts.take (2 + rd ns 5).toNat).drop 2).length from by rw [List.length_drop, List.length_take]; omega)
 have K7 := Aside0.mk (show ((ts.take (2 + rd ns 5).toNat).drop 2).length ≤ cT - 2 from by have := HCAP.out; rw [List.length_drop, List.length_take]; omega)
 have K7L := Aside0.mk (show ((ts.take (2 + rd ns 5).toNat).drop 2).length < 8796093022208 from by rw [List.length_drop, List.length_take]; omega)
 have q1 : IntKind.i64.wrap (2 + rd ns 5) = 2 + rd ns 5 := IntWalk.i64_in _ (by omega)
 have q2 : (0 : Int) ≤ 2 + rd ns 5 := by omega
 have q3 : (2 : Int) ≤ 2 + rd ns 5 := by omega
 have q4 : 2 + rd ns 5 ≤ (ts.length : Int) := by omega
 have jt : (0 : Int) < (ts.length : Int) := by omega
 have jt1 : (1 : Int) < (ts.length : Int) := by omega
 have jjt1 : 1 < ts.length := by omega
 have jjt : 0 < ts.length := by omega
 have j0 : (0 : Int) < (ns.length : Int) := by omega
 have jj0 : 0 < ns.length := by omega
 have j1 : (1 : Int) < (ns.length : Int) := by omega
 have jj1 : 1 < ns.length := by omega
 have j2 : (2 : Int) < (ns.length : Int) := by omega
 have jj2 : 2 < ns.length := by omega
 have j3 : (3 : Int) < (ns.length : Int) := by omega
 have jj3 : 3 < ns.length := by omega
 have j4 : (4 : Int) < (ns.length : Int) := by omega
 have jj4 : 4 < ns.length := by omega
 have j5 : (5 : Int) < (ns.length : Int) := by omega
 have jj5 : 5 < ns.length := by omega
 clear hsame hsameT hA7 hAR hs9 hz9 hi9
 have hN7 := HQ1.out.ns
 have hT7 := HQ1.out.ts
 have hn0 : W1.cell? ⟨gn, 0, none⟩ = some (.int .i64 (rd ns 0)) := ncell HQ1.out.ns 0 (by omega)
 have hn1 : W1.cell? ⟨gn, 1, none⟩ = some (.int .i64 (rd ns 1)) := ncell HQ1.out.ns 1 (by omega)
 have hn2 : W1.cell? ⟨gn, 2, none⟩ = some (.int .i64 (rd ns 2)) := ncell HQ1.out.ns 2 (by omega)
 have hn3 : W1.cell? ⟨gn, 3, none⟩ = some (.int .i64 (rd ns 3)) := ncell HQ1.out.ns 3 (by omega)
 have hn4 : W1.cell? ⟨gn, 4, none⟩ = some (.int .i64 (rd ns 4)) := ncell HQ1.out.ns 4 (by omega)
 have hn5 : W1.cell? ⟨gn, 5, none⟩ = some (.int .i64 (rd ns 5)) := ncell HQ1.out.ns 5 (by omega)
 have ht0 : W1.cell? ⟨gt, 0, none⟩ = some (.string (rdOf ByteArray.empty ts 0)) := tcell HQ1.out.ts 0 (by omega)
 have ht1 : W1.cell? ⟨gt, 1, none⟩ = some (.string (rdOf ByteArray.empty ts 1)) := tcell HQ1.out.ts 1 (by omega)
 have nn1 : gn ≠ W1.heap.size := by have := Kd.R_lt hN7 gn (by simp [Value.ownBlock]); omega
 have nn2 : gt ≠ W1.heap.size := by have := Kd.R_lt hT7 gt (by simp [Value.ownBlock]); omega
 have nn3 : gp ≠ W1.heap.size := by have := blk_lt HQ1.out.bp; omega
 have nn7 : gq ≠ W1.heap.size := by have := blk_lt HQ1.out.bq; omega
 have nn4 := Ne.symm nn1
 have nn5 := Ne.symm nn2
 have nn6 := Ne.symm nn3
 clear hN7 hT7
 go_upto_region 8 with (fail)
 go_cut [10] from 69 (fun v10 wc => ∃ (gl cK : Nat) (AK : Option Addr), v10 = .pointer (some ⟨gl, 0, none⟩) ∧ Aside0 (PL w wc gq gp gl ns ts (.slice (some ⟨gn, 0, none⟩) ns.length cN) (.slice (some ⟨gt, 0, none⟩) ts.length cT) (rd ns 0) (rd ns 1) (rd ns 2) (rd ns 3) (rdOf ByteArray.empty ts 0) (rdOf ByteArray.empty ts 1) (rd ns 4 == 1) ((ts.take (2 + rd ns 5).toNat).drop 2) (.slice AK ((ts.take (2 + rd ns 5).toNat).drop 2).length cK) [] (.slice none 0 0)))
 case first =>
  go_region_held3 (fun W => W.cell? ⟨gn, 0, none⟩ = some (.int .i64 (rd ns 0)) ∧ W.cell? ⟨gn, 1, none⟩ = some (.int .i64 (rd ns 1)) ∧ W.cell? ⟨gn, 2, none⟩ = some (.int .i64 (rd ns 2)) ∧ W.cell? ⟨gn, 3, none⟩ = some (.int .i64 (rd ns 3)) ∧ W.cell? ⟨gn, 4, none⟩ = some (.int .i64 (rd ns 4)) ∧ W.cell? ⟨gn, 5, none⟩ = some (.int .i64 (rd ns 5)) ∧ W.cell? ⟨gp, 1, none⟩ = some (.slice (some ⟨gt, 0, none⟩) ts.length cT) ∧ W.cell? ⟨gt, 0, none⟩ = some (.string (rdOf ByteArray.empty ts 0)) ∧ W.cell? ⟨gt, 1, none⟩ = some (.string (rdOf ByteArray.empty ts 1))) (go_keep) ((go_at_call 37; (with_reducible refine (clone_len L7.out (HM7.out _ (Kd.R_reads' (QR.ts (w0 := w) (gq := gq) (gp := gp) (xs := ns) (ts := ts) (vN := .slice (some ⟨gn, 0, none⟩) ns.length cN) (vT := .slice (some ⟨gt, 0, none⟩) ts.length cT) (by (with_reducible repeat (first | exact HQ1.out | apply QR.drew | apply QR.drewN | apply QR.alloc))))).2.2) K7.out K7L.out).mono ?_); rintro e w2 ⟨v7, rfl, ho, hb⟩; obtain ⟨AK, cK, eK⟩ := Kd.R_slice ho; subst eK; have HQ2 : Aside0 (QR w w2 gq gp ns ts (.slice (some ⟨gn, 0, none⟩) ns.length cN) (.slice (some ⟨gt, 0, none⟩) ts.length cT)) := ⟨QR.below (by (with_reducible repeat (first | exact HQ1.out | apply QR.drew | apply QR.drewN | apply QR.alloc))) hb⟩; have HO2 : Aside0 (Kd.string.R 9 w2 w.heap.size (fun _ => True) (.slice AK ((ts.take (2 + rd ns 5).toNat).drop 2).length cK) ((ts.take (2 + rd ns 5).toNat).drop 2)) := ⟨Kd.R_lower ho (QR.bel (w0 := w) (gq := gq) (gp := gp) (xs := ns) (ts := ts) (vN := .slice (some ⟨gn, 0, none⟩) ns.length cN) (vT := .slice (some ⟨gt, 0, none⟩) ts.length cT) (by (with_reducible repeat (first | exact HQ1.out | apply QR.drew | apply QR.drewN | apply QR.alloc)))).size⟩; (try (have BG : Aside0 (w2.heap[W1.heap.size]? = some (.cells #[.int .i64 0, .int .i64 0, .int .i64 0, .int .i64 0, .string (⟨#[]⟩ : ByteArray), .string (⟨#[]⟩ : ByteArray), .bool false, .slice none 0 0, .slice none 0 0] 25 (0, 0))) := ⟨blk_below (w := (W1.alloc (.cells #[.int .i64 0, .int .i64 0, .int .i64 0, .int .i64 0, .string (⟨#[]⟩ : ByteArray), .string (⟨#[]⟩ : ByteArray), .bool false, .slice none 0 0, .slice none 0 0] 25)).drew) (blk_drew (blk_new W1 _)) hb⟩; have hg0 : w2.cell? ⟨W1.heap.size, 0, none⟩ = some (.int .i64 0) := (blk_cell BG.out 0).trans rfl; have hgf0 := blk_frozen BG.out 0; have hg1 : w2.cell? ⟨W1.heap.size, 1, none⟩ = some (.int .i64 0) := (blk_cell BG.out 1).trans rfl; have hgf1 := blk_frozen BG.out 1; have hg2 : w2.cell? ⟨W1.heap.size, 2, none⟩ = some (.int .i64 0) := (blk_cell BG.out 2).trans rfl; have hgf2 := blk_frozen BG.out 2; have hg3 : w2.cell? ⟨W1.heap.size, 3, none⟩ = some (.int .i64 0) := (blk_cell BG.out 3).trans rfl; have hgf3 := blk_frozen BG.out 3; have hg4 : w2.cell? ⟨W1.heap.size, 4, none⟩ = some (.string (⟨#[]⟩ : ByteArray)) := (blk_cell BG.out 4).trans rfl; have hgf4 := blk_frozen BG.out 4; have hg5 : w2.cell? ⟨W1.heap.size, 5, none⟩ = some (.string (⟨#[]⟩ : ByteArray)) := (blk_cell BG.out 5).trans rfl; have hgf5 := blk_frozen BG.out 5; have hg6 : w2.cell? ⟨W1.heap.size, 6, none⟩ = some (.bool false) := (blk_cell BG.out 6).trans rfl; have hgf6 := blk_frozen BG.out 6; have hg7 : w2.cell? ⟨W1.heap.size, 7, none⟩ = some (.slice none 0 0) := (blk_cell BG.out 7).trans rfl; have hgf7 := blk_frozen BG.out 7; have hg8 : w2.cell? ⟨W1.heap.size, 8, none⟩ = some (.slice none 0 0) := (blk_cell BG.out 8).trans rfl; have hgf8 := blk_frozen BG.out 8;  skip)); have hp1 : w2.cell? ⟨gp, 1, none⟩ = some (.slice (some ⟨gt, 0, none⟩) ts.length cT) := (blk_cell HQ2.out.bp 1).trans rfl; have hm0 : w2.cell? ⟨gn, 0, none⟩ = some (.int .i64 (rd ns 0)) := ncell HQ2.out.ns 0 (by omega); have hm1 : w2.cell? ⟨gn, 1, none⟩ = some (.int .i64 (rd ns 1)) := ncell HQ2.out.ns 1 (by omega); have hm2 : w2.cell? ⟨gn, 2, none⟩ = some (.int .i64 (rd ns 2)) := ncell HQ2.out.ns 2 (by omega); have hm3 : w2.cell? ⟨gn, 3, none⟩ = some (.int .i64 (rd ns 3)) := ncell HQ2.out.ns 3 (by omega); have hm4 : w2.cell? ⟨gn, 4, none⟩ = some (.int .i64 (rd ns 4)) := ncell HQ2.out.ns 4 (by omega); have hm5 : w2.cell? ⟨gn, 5, none⟩ = some (.int .i64 (rd ns 5)) := ncell HQ2.out.ns 5 (by omega); have hu0 : w2.cell? ⟨gt, 0, none⟩ = some (.string (rdOf ByteArray.empty ts 0)) := tcell HQ2.out.ts 0 (by omega); have hu1 : w2.cell? ⟨gt, 1, none⟩ = some (.string (rdOf ByteArray.empty ts 1)) := tcell HQ2.out.ts 1 (by omega);  clear ho hb))
  all_goals (go_wp2; go_meet)
  all_goals (case rel => first | (have bg_ := BG.out; rw [L7.out]; exact ⟨W1.heap.size, cK, AK, rfl, ⟨PL.nine HQ2.out BG.out HQ1.out.bel.size nn7 nn3 HO2.out⟩⟩) | (rw [L7.out]; exact ⟨w2.heap.size, cK, AK, rfl, ⟨PL.new HQ2.out HO2.out⟩⟩))
 case rest =>
  obtain ⟨gl, cK, AK, rfl, HP0⟩ := hcut
  clear HQ1 hn0 hn1 hn2 hn3 hn4 hn5 ht0 hP0 hP1 hq0 hqf0 hq1 hqf1 hq2 hqf2 hq3 hqf3 hq4 hqf4 hq5 hqf5 hq6 hqf6 hq7 hqf7 hq8 hqf8 nn1 nn2 nn3 nn4 nn5 nn6 hcut hcutN
  have hP1 : wc.cell? ⟨gp, 1, none⟩ = some (.slice (some ⟨gt, 0, none⟩) ts.length cT) := (blk_cell HP0.out.q.bp 1).trans rfl
  have hl7' : ns.length - 6 ≤ 1024 := by omega
  go_wp2
  go_loopw [107] (fun v107 wr => ∃ (i : Nat) (x : Int) (vW : Value), v107 = .int .i64 x ∧ Aside0 (x = (i : Int)) ∧ Aside0 (i ≤ ns.length - 6) ∧ Aside0 (PL w wr gq gp gl ns ts (.slice (some ⟨gn, 0, none⟩) ns.length cN) (.slice (some ⟨gt, 0, none⟩) ts.length cT) (rd ns 0) (rd ns 1) (rd ns 2) (rd ns 3) (rdOf ByteArray.empty ts 0) (rdOf ByteArray.empty ts 1) (rd ns 4 == 1) ((ts.take (2 + rd ns 5).toNat).drop 2) (.slice AK ((ts.take (2 + rd ns 5).toNat).drop 2).length cK) (wsOf (ns.drop 6) (ts.drop (2 + rd ns 5).toNat) i) vW)) (fun v107 _ => (ns.length - 6) - (intOf v107).toNat)
  case atStart => exact ⟨0, 0, _, rfl, ⟨rfl⟩, ⟨Nat.zero_le _⟩, HP0⟩
  case round =>
   obtain ⟨i, x, vW, rfl, hx, hi, HP⟩ := hrel
   clear HP0 hP1 q1 hcutT
   have hxi := hx.out
   have hile := hi.out
   obtain ⟨AW, cW, eW⟩ := Kd.R_slice HP.out.wr
   subst eW
   by_cases hlt : i < ns.length - 6
   ·have c1 : decide (x < ((ns.length - 6 : Nat) : Int)) = true := decide_eq_true (by omega)
    have p1 : 0 ≤ x := by omega
    have b1 : x ≤ 1024 := by omega
    have q0 : x < ((ns.length - 6 : Nat) : Int) := by omega
    have hxx := HX.out
    have r1 : 2 * x < ((ts.length - (2 + rd ns 5).toNat : Nat) : Int) := by omega
    have r2 : 2 * x + 1 < ((ts.length - (2 + rd ns 5).toNat : Nat) : Int) := by omega
    have r3 : 0 ≤ 2 * x := by omega
    have r4 : 0 ≤ 2 * x + 1 := by omega
    obtain ⟨adF, eF, hF⟩ := Kd.at_int (HMF.out _ (Kd.R_reads' HP.out.q.ns).2.2) x p1 (by rw [List.length_drop]; exact q0)
    obtain ⟨adR, eR, hR0⟩ := Kd.at_string (HMR.out _ (Kd.R_reads' HP.out.q.ts).2.2) (2 * x) r3 (by rw [List.length_drop]; exact r1)
    obtain ⟨adR', eR', hR1⟩ := Kd.at_string (HMR.out _ (Kd.R_reads' HP.out.q.ts).2.2) (2 * x + 1) r4 (by rw [List.length_drop]; exact r2)
    subst eF
    subst eR
    cases eR'
    have hv : wsOf (ns.drop 6) (ts.drop (2 + rd ns 5).toNat) (i + 1) = wsOf (ns.drop 6) (ts.drop (2 + rd ns 5).toNat) i ++ [⟨rdOf ByteArray.empty (ts.drop (2 + rd ns 5).toNat) (2 * x), rdOf ByteArray.empty (ts.drop (2 + rd ns 5).toNat) (2 * x + 1), rd (ns.drop 6) x == 1⟩] := by rw [ws_succ, hxi]; rfl
    have HLn : Aside0 ((wsOf (ns.drop 6) (ts.drop (2 + rd ns 5).toNat) i).length ≤ 1024) := ⟨by rw [ws_len]; omega⟩
    generalize rdOf ByteArray.empty (ts.drop (2 + rd ns 5).toNat) (2 * x) = ta at hR0 hv
    generalize rdOf ByteArray.empty (ts.drop (2 + rd ns 5).toNat) (2 * x + 1) = tb at hR1 hv
    generalize rd (ns.drop 6) x = dd at hF hv
    have HV := Aside0.mk hv
    have HI := Aside0.mk (show x + 1 = ((i + 1 : Nat) : Int) from by omega)
    have HLE := Aside0.mk (show i + 1 ≤ ns.length - 6 from hlt)
    have HM := Aside0.mk (show (ns.length - 6) - (intOf (.int .i64 (x + 1))).toNat < (ns.length - 6) - (intOf (.int .i64 x)).toNat from by simp [intOf]; omega)
    have HPd := Aside0.mk HP.out.drew
    have hlW : wr.cell? ⟨gl, 8, none⟩ = some (.slice AW (wsOf (ns.drop 6) (ts.drop (2 + rd ns 5).toNat) i).length cW) := (blk_cell HP.out.bl 8).trans rfl
    have hlW2 : ∀ o : Obj, (wr.drew.alloc o).cell? ⟨gl, 8, none⟩ = some (.slice AW (wsOf (ns.drop 6) (ts.drop (2 + rd ns 5).toNat) i).length cW) := fun o => (blk_cell (HPd.out.alloc o).bl 8).trans rfl
    have hlW3 : ∀ o : Obj, (wr.alloc o).cell? ⟨gl, 8, none⟩ = some (.slice AW (wsOf (ns.drop 6) (ts.drop (2 + rd ns 5).toNat) i).length cW) := fun o => (blk_cell (HP.out.alloc o).bl 8).trans rfl
    have s1 : IntKind.i64.wrap (2 * x) = 2 * x := IntWalk.i64_in _ (by omega)
    have s2 : IntKind.i64.wrap (2 * x + 1) = 2 * x + 1 := IntWalk.i64_in _ (by omega)
    clear hv hxi hile hlt hxx
    go_wp2_with fail
    go_region_law (refine Kd.R_append_step k50 (w0 := w) w.heap.size (by rfl) (.tmp 113) (.tmp 128) 23 50 (.agg #[.string ⟨#[]⟩, .string ⟨#[]⟩, .bool false]) 40 (by rfl) Try.underlying23 info50 rfl (by decide) (by decide) (.slice AW (wsOf (ns.drop 6) (ts.drop (2 + rd ns 5).toNat) i).length cW) (wsOf (ns.drop 6) (ts.drop (2 + rd ns 5).toNat) i) (⟨ta, tb, dd == 1⟩ : S50) [.string ta, .string tb, .bool (dd == 1)] (fun _ => True) (fun _ => False) (by rfl) (by rfl) (k50_mkM _ _ _ _) (fun _ hk => hk.elim) (fun _ _ => trivial) HPd.out.wr HPd.out.q.bel HPd.out.q.bel.size (Nat.le_trans (Nat.mul_le_mul_right 40 (Nat.add_le_add_right HLn.out 1)) (by decide)) ?_; intro v1 w1 ho hb hg hat; obtain ⟨A1, k1, e1⟩ := Kd.R_slice ho; subst e1; obtain ⟨b1, hp2⟩ := HPd.out.push ho hb hg; have HP2 := Aside0.mk hp2; have hs0 : w1.cell? ⟨gl, 8, none⟩ = some (.slice AW (wsOf (ns.drop 6) (ts.drop (2 + rd ns 5).toNat) i).length cW) := (blk_cell b1 8).trans rfl; have hf0 := blk_frozen b1 8; clear ho hb hg hat hp2 b1)
    all_goals go_wp2_with fail
    all_goals (have HP3 := HP2.out; rw [List.length_append, List.length_singleton, ← HV.out] at HP3; exact ⟨⟨i + 1, x + 1, _, rfl, HI, HLE, ⟨HP3⟩⟩, HM.out⟩)
   ·have c1 : decide (x < ((ns.length - 6 : Nat) : Int)) = false := decide_eq_false (by omega)
    obtain rfl : i = ns.length - 6 := by omega
    clear hxi hile hlt
    have hl0 : wr.cell? ⟨gl, 0, none⟩ = some (.int .i64 (rd ns 0)) := (blk_cell HP.out.bl 0).trans rfl
    have hl1 : wr.cell? ⟨gl, 1, none⟩ = some (.int .i64 (rd ns 1)) := (blk_cell HP.out.bl 1).trans rfl
    have hl2 : wr.cell? ⟨gl, 2, none⟩ = some (.int .i64 (rd ns 2)) := (blk_cell HP.out.bl 2).trans rfl
    have hl3 : wr.cell? ⟨gl, 3, none⟩ = some (.int .i64 (rd ns 3)) := (blk_cell HP.out.bl 3).trans rfl
    have hl4 : wr.cell? ⟨gl, 4, none⟩ = some (.string (rdOf ByteArray.empty ts 0)) := (blk_cell HP.out.bl 4).trans rfl
    have hl5 : wr.cell? ⟨gl, 5, none⟩ = some (.string (rdOf ByteArray.empty ts 1)) := (blk_cell HP.out.bl 5).trans rfl
    have hl6 : wr.cell? ⟨gl, 6, none⟩ = some (.bool (rd ns 4 == 1)) := (blk_cell HP.out.bl 6).trans rfl
    have hl7 : wr.cell? ⟨gl, 7, none⟩ = some (.slice AK ((ts.take (2 + rd ns 5).toNat).drop 2).length cK) := (blk_cell HP.out.bl 7).trans rfl
    have hl8 : wr.cell? ⟨gl, 8, none⟩ = some (.slice AW (wsOf (ns.drop 6) (ts.drop (2 + rd ns 5).toNat) (ns.length - 6)).length cW) := (blk_cell HP.out.bl 8).trans rfl
    by_cases he : ee = 0
    ·subst he
     by_cases hbs : bb = s
     ·subst hbs
      rw [if_pos ⟨rfl, rfl⟩] at HRR
      go_wp2_with (go_at_call 9; (with_reducible refine (enc_len (k := k) L7.out (Kd.R_reads' HP.out.kr).2.2 (Kd.R_reads' HP.out.kr).2.1 (Kd.R_reads' HP.out.wr).2.2 (Kd.R_reads' HP.out.wr).2.1 HEN.out).mono ?_); rintro e9 w9 ⟨rfl, hb⟩; have HP9 := Aside0.mk (HP.out.below hb); have hq0 : w9.cell? ⟨gq, 0, none⟩ = some (.int .i64 0) := (blk_cell HP9.out.q.bq 0).trans rfl; have hqf0 := blk_frozen HP9.out.q.bq 0; have hq1 : w9.cell? ⟨gq, 1, none⟩ = some (.int .i64 0) := (blk_cell HP9.out.q.bq 1).trans rfl; have hqf1 := blk_frozen HP9.out.q.bq 1; have hq2 : w9.cell? ⟨gq, 2, none⟩ = some (.int .i64 0) := (blk_cell HP9.out.q.bq 2).trans rfl; have hqf2 := blk_frozen HP9.out.q.bq 2; have hq3 : w9.cell? ⟨gq, 3, none⟩ = some (.int .i64 0) := (blk_cell HP9.out.q.bq 3).trans rfl; have hqf3 := blk_frozen HP9.out.q.bq 3; have hq4 : w9.cell? ⟨gq, 4, none⟩ = some (.string (⟨#[]⟩ : ByteArray)) := (blk_cell HP9.out.q.bq 4).trans rfl; have hqf4 := blk_frozen HP9.out.q.bq 4; have hq5 : w9.cell? ⟨gq, 5, none⟩ = some (.string (⟨#[]⟩ : ByteArray)) := (blk_cell HP9.out.q.bq 5).trans rfl; have hqf5 := blk_frozen HP9.out.q.bq 5; have hq6 : w9.cell? ⟨gq, 6, none⟩ = some (.bool false) := (blk_cell HP9.out.q.bq 6).trans rfl; have hqf6 := blk_frozen HP9.out.q.bq 6; have hq7 : w9.cell? ⟨gq, 7, none⟩ = some (.slice none 0 0) := (blk_cell HP9.out.q.bq 7).trans rfl; have hqf7 := blk_frozen HP9.out.q.bq 7; have hq8 : w9.cell? ⟨gq, 8, none⟩ = some (.slice none 0 0) := (blk_cell HP9.out.q.bq 8).trans rfl; have hqf8 := blk_frozen HP9.out.q.bq 8;  have hm0 : w9.cell? ⟨gl, 0, none⟩ = some (.int .i64 (rd ns 0)) := (blk_cell HP9.out.bl 0).trans rfl; have hm1 : w9.cell? ⟨gl, 1, none⟩ = some (.int .i64 (rd ns 1)) := (blk_cell HP9.out.bl 1).trans rfl; have hm2 : w9.cell? ⟨gl, 2, none⟩ = some (.int .i64 (rd ns 2)) := (blk_cell HP9.out.bl 2).trans rfl; have hm3 : w9.cell? ⟨gl, 3, none⟩ = some (.int .i64 (rd ns 3)) := (blk_cell HP9.out.bl 3).trans rfl; have hm4 : w9.cell? ⟨gl, 4, none⟩ = some (.string (rdOf ByteArray.empty ts 0)) := (blk_cell HP9.out.bl 4).trans rfl; have hm5 : w9.cell? ⟨gl, 5, none⟩ = some (.string (rdOf ByteArray.empty ts 1)) := (blk_cell HP9.out.bl 5).trans rfl; have hm6 : w9.cell? ⟨gl, 6, none⟩ = some (.bool (rd ns 4 == 1)) := (blk_cell HP9.out.bl 6).trans rfl; have hm7 : w9.cell? ⟨gl, 7, none⟩ = some (.slice AK ((ts.take (2 + rd ns 5).toNat).drop 2).length cK) := (blk_cell HP9.out.bl 7).trans rfl; have hm8 : w9.cell? ⟨gl, 8, none⟩ = some (.slice AW (wsOf (ns.drop 6) (ts.drop (2 + rd ns 5).toNat) (ns.length - 6)).length cW) := (blk_cell HP9.out.bl 8).trans rfl;  clear hb)
      have hr9 := Kd.R_keep (Kd.R_types HP9.out.wr HP9.out.q.bq (by decide)) (keep9 (W := w9) (g := gq) (c0 := .int .i64 (rd ns 0)) (c1 := .int .i64 (rd ns 1)) (c2 := .int .i64 (rd ns 2)) (c3 := .int .i64 (rd ns 3)) (c4 := .string (rdOf ByteArray.empty ts 0)) (c5 := .string (rdOf ByteArray.empty ts 1)) (c6 := .bool (rd ns 4 == 1)) (c7 := .slice AK ((2 + rd ns 5).toNat - 2) cK) (c8 := .slice AW (wsOf (ns.drop 6) (ts.drop (2 + rd ns 5).toNat) (ns.length - 6)).length cW)) (fun _ hk => hk.2)
      have hk9 := Kd.R_keep (Kd.R_types HP9.out.kr HP9.out.q.bq (by decide)) (keep9 (W := w9) (g := gq) (c0 := .int .i64 (rd ns 0)) (c1 := .int .i64 (rd ns 1)) (c2 := .int .i64 (rd ns 2)) (c3 := .int .i64 (rd ns 3)) (c4 := .string (rdOf ByteArray.empty ts 0)) (c5 := .string (rdOf ByteArray.empty ts 1)) (c6 := .bool (rd ns 4 == 1)) (c7 := .slice AK ((2 + rd ns 5).toNat - 2) cK) (c8 := .slice AW (wsOf (ns.drop 6) (ts.drop (2 + rd ns 5).toNat) (ns.length - 6)).length cW)) (fun _ hk => hk.2)
      rw [← L7.out] at hk9
      refine bodyPost_ret (results_ct rfl _ _ gq 25 #[.int .i64 (rd ns 0), .int .i64 (rd ns 1), .int .i64 (rd ns 2), .int .i64 (rd ns 3), .string (rdOf ByteArray.empty ts 0), .string (rdOf ByteArray.empty ts 1), .bool (rd ns 4 == 1), .slice AK ((2 + rd ns 5).toNat - 2) cK, .slice AW (wsOf (ns.drop 6) (ts.drop (2 + rd ns 5).toNat) (ns.length - 6)).length cW] (0, 0) _ rfl (set9 HP9.out.q.bq) Try.underlying25 rfl (by kernel_rfl)) rfl ?_
      exact ⟨.slice AK ((2 + rd ns 5).toNat - 2) cK, _, by rw [← HRR]; rfl, by rw [← HRR]; exact Kd.R_mono hk9 (fun _ _ => trivial), by rw [← HRR]; exact Kd.R_mono hr9 (fun _ _ => trivial), below9 HP9.out.q.bel HP9.out.q.geq⟩
     ·have t1 : (bb.toList == s.toList) = false := beq_eq_false_iff_ne.2 (fun ht => hbs (B_inj (by rw [← toList_eq, ← toList_eq, ht])))
      have t2 : (bb.toList != s.toList) = true := bne_iff_ne.2 (fun ht => hbs (B_inj (by rw [← toList_eq, ← toList_eq, ht])))
      rw [if_neg (fun h => hbs h.2)] at HRR
      clear hbs
      go_wp2_with (go_at_call 9; (with_reducible refine (enc_len (k := k) L7.out (Kd.R_reads' HP.out.kr).2.2 (Kd.R_reads' HP.out.kr).2.1 (Kd.R_reads' HP.out.wr).2.2 (Kd.R_reads' HP.out.wr).2.1 HEN.out).mono ?_); rintro e9 w9 ⟨rfl, hb⟩; have HP9 := Aside0.mk (HP.out.below hb); have hq0 : w9.cell? ⟨gq, 0, none⟩ = some (.int .i64 0) := (blk_cell HP9.out.q.bq 0).trans rfl; have hqf0 := blk_frozen HP9.out.q.bq 0; have hq1 : w9.cell? ⟨gq, 1, none⟩ = some (.int .i64 0) := (blk_cell HP9.out.q.bq 1).trans rfl; have hqf1 := blk_frozen HP9.out.q.bq 1; have hq2 : w9.cell? ⟨gq, 2, none⟩ = some (.int .i64 0) := (blk_cell HP9.out.q.bq 2).trans rfl; have hqf2 := blk_frozen HP9.out.q.bq 2; have hq3 : w9.cell? ⟨gq, 3, none⟩ = some (.int .i64 0) := (blk_cell HP9.out.q.bq 3).trans rfl; have hqf3 := blk_frozen HP9.out.q.bq 3; have hq4 : w9.cell? ⟨gq, 4, none⟩ = some (.string (⟨#[]⟩ : ByteArray)) := (blk_cell HP9.out.q.bq 4).trans rfl; have hqf4 := blk_frozen HP9.out.q.bq 4; have hq5 : w9.cell? ⟨gq, 5, none⟩ = some (.string (⟨#[]⟩ : ByteArray)) := (blk_cell HP9.out.q.bq 5).trans rfl; have hqf5 := blk_frozen HP9.out.q.bq 5; have hq6 : w9.cell? ⟨gq, 6, none⟩ = some (.bool false) := (blk_cell HP9.out.q.bq 6).trans rfl; have hqf6 := blk_frozen HP9.out.q.bq 6; have hq7 : w9.cell? ⟨gq, 7, none⟩ = some (.slice none 0 0) := (blk_cell HP9.out.q.bq 7).trans rfl; have hqf7 := blk_frozen HP9.out.q.bq 7; have hq8 : w9.cell? ⟨gq, 8, none⟩ = some (.slice none 0 0) := (blk_cell HP9.out.q.bq 8).trans rfl; have hqf8 := blk_frozen HP9.out.q.bq 8;  have hm0 : w9.cell? ⟨gl, 0, none⟩ = some (.int .i64 (rd ns 0)) := (blk_cell HP9.out.bl 0).trans rfl; have hm1 : w9.cell? ⟨gl, 1, none⟩ = some (.int .i64 (rd ns 1)) := (blk_cell HP9.out.bl 1).trans rfl; have hm2 : w9.cell? ⟨gl, 2, none⟩ = some (.int .i64 (rd ns 2)) := (blk_cell HP9.out.bl 2).trans rfl; have hm3 : w9.cell? ⟨gl, 3, none⟩ = some (.int .i64 (rd ns 3)) := (blk_cell HP9.out.bl 3).trans rfl; have hm4 : w9.cell? ⟨gl, 4, none⟩ = some (.string (rdOf ByteArray.empty ts 0)) := (blk_cell HP9.out.bl 4).trans rfl; have hm5 : w9.cell? ⟨gl, 5, none⟩ = some (.string (rdOf ByteArray.empty ts 1)) := (blk_cell HP9.out.bl 5).trans rfl; have hm6 : w9.cell? ⟨gl, 6, none⟩ = some (.bool (rd ns 4 == 1)) := (blk_cell HP9.out.bl 6).trans rfl; have hm7 : w9.cell? ⟨gl, 7, none⟩ = some (.slice AK ((ts.take (2 + rd ns 5).toNat).drop 2).length cK) := (blk_cell HP9.out.bl 7).trans rfl; have hm8 : w9.cell? ⟨gl, 8, none⟩ = some (.slice AW (wsOf (ns.drop 6) (ts.drop (2 + rd ns 5).toNat) (ns.length - 6)).length cW) := (blk_cell HP9.out.bl 8).trans rfl;  clear hb)
      refine bodyPost_ret (results_ct rfl _ _ gq 25 #[.int .i64 0, .int .i64 0, .int .i64 0, .int .i64 0, .string (⟨#[]⟩ : ByteArray), .string (⟨#[]⟩ : ByteArray), .bool false, .slice none 0 0, .slice none 0 0] (0, 0) _ rfl (set9 HP9.out.q.bq) Try.underlying25 rfl (by kernel_rfl)) rfl ?_
      exact ⟨_, _, by rw [← HRR]; rfl, by rw [← HRR]; exact Kd.R_nil _ _ _ _ _, by rw [← HRR]; exact Kd.R_nil _ _ _ _ _, below9 HP9.out.q.bel HP9.out.q.geq⟩
    ·have t1 : (ee == 0) = false := beq_eq_false_iff_ne.2 he
     have t2 : (ee != 0) = true := bne_iff_ne.2 he
     rw [if_neg (fun h => he h.1)] at HRR
     clear he
     go_wp2_with (go_at_call 9; (with_reducible refine (enc_len (k := k) L7.out (Kd.R_reads' HP.out.kr).2.2 (Kd.R_reads' HP.out.kr).2.1 (Kd.R_reads' HP.out.wr).2.2 (Kd.R_reads' HP.out.wr).2.1 HEN.out).mono ?_); rintro e9 w9 ⟨rfl, hb⟩; have HP9 := Aside0.mk (HP.out.below hb); have hq0 : w9.cell? ⟨gq, 0, none⟩ = some (.int .i64 0) := (blk_cell HP9.out.q.bq 0).trans rfl; have hqf0 := blk_frozen HP9.out.q.bq 0; have hq1 : w9.cell? ⟨gq, 1, none⟩ = some (.int .i64 0) := (blk_cell HP9.out.q.bq 1).trans rfl; have hqf1 := blk_frozen HP9.out.q.bq 1; have hq2 : w9.cell? ⟨gq, 2, none⟩ = some (.int .i64 0) := (blk_cell HP9.out.q.bq 2).trans rfl; have hqf2 := blk_frozen HP9.out.q.bq 2; have hq3 : w9.cell? ⟨gq, 3, none⟩ = some (.int .i64 0) := (blk_cell HP9.out.q.bq 3).trans rfl; have hqf3 := blk_frozen HP9.out.q.bq 3; have hq4 : w9.cell? ⟨gq, 4, none⟩ = some (.string (⟨#[]⟩ : ByteArray)) := (blk_cell HP9.out.q.bq 4).trans rfl; have hqf4 := blk_frozen HP9.out.q.bq 4; have hq5 : w9.cell? ⟨gq, 5, none⟩ = some (.string (⟨#[]⟩ : ByteArray)) := (blk_cell HP9.out.q.bq 5).trans rfl; have hqf5 := blk_frozen HP9.out.q.bq 5; have hq6 : w9.cell? ⟨gq, 6, none⟩ = some (.bool false) := (blk_cell HP9.out.q.bq 6).trans rfl; have hqf6 := blk_frozen HP9.out.q.bq 6; have hq7 : w9.cell? ⟨gq, 7, none⟩ = some (.slice none 0 0) := (blk_cell HP9.out.q.bq 7).trans rfl; have hqf7 := blk_frozen HP9.out.q.bq 7; have hq8 : w9.cell? ⟨gq, 8, none⟩ = some (.slice none 0 0) := (blk_cell HP9.out.q.bq 8).trans rfl; have hqf8 := blk_frozen HP9.out.q.bq 8;  have hm0 : w9.cell? ⟨gl, 0, none⟩ = some (.int .i64 (rd ns 0)) := (blk_cell HP9.out.bl 0).trans rfl; have hm1 : w9.cell? ⟨gl, 1, none⟩ = some (.int .i64 (rd ns 1)) := (blk_cell HP9.out.bl 1).trans rfl; have hm2 : w9.cell? ⟨gl, 2, none⟩ = some (.int .i64 (rd ns 2)) := (blk_cell HP9.out.bl 2).trans rfl; have hm3 : w9.cell? ⟨gl, 3, none⟩ = some (.int .i64 (rd ns 3)) := (blk_cell HP9.out.bl 3).trans rfl; have hm4 : w9.cell? ⟨gl, 4, none⟩ = some (.string (rdOf ByteArray.empty ts 0)) := (blk_cell HP9.out.bl 4).trans rfl; have hm5 : w9.cell? ⟨gl, 5, none⟩ = some (.string (rdOf ByteArray.empty ts 1)) := (blk_cell HP9.out.bl 5).trans rfl; have hm6 : w9.cell? ⟨gl, 6, none⟩ = some (.bool (rd ns 4 == 1)) := (blk_cell HP9.out.bl 6).trans rfl; have hm7 : w9.cell? ⟨gl, 7, none⟩ = some (.slice AK ((ts.take (2 + rd ns 5).toNat).drop 2).length cK) := (blk_cell HP9.out.bl 7).trans rfl; have hm8 : w9.cell? ⟨gl, 8, none⟩ = some (.slice AW (wsOf (ns.drop 6) (ts.drop (2 + rd ns 5).toNat) (ns.length - 6)).length cW) := (blk_cell HP9.out.bl 8).trans rfl;  clear hb)
     refine bodyPost_ret (results_ct rfl _ _ gq 25 #[.int .i64 0, .int .i64 0, .int .i64 0, .int .i64 0, .string (⟨#[]⟩ : ByteArray), .string (⟨#[]⟩ : ByteArray), .bool false, .slice none 0 0, .slice none 0 0] (0, 0) _ rfl (set9 HP9.out.q.bq) Try.underlying25 rfl (by kernel_rfl)) rfl ?_
     exact ⟨_, _, by rw [← HRR]; rfl, by rw [← HRR]; exact Kd.R_nil _ _ _ _ _, by rw [← HRR]; exact Kd.R_nil _ _ _ _ _, below9 HP9.out.q.bel HP9.out.q.geq⟩
/-- What a pack's numbers and texts are as a letter. -/
def letOf (k : Nat) (s : ByteArray) (ns : List Int) (ts : List ByteArray) : Option RLet :=
 if 0 ≤ rd ns 5 ∧ rd ns 5 ≤ (ts.length : Int) - 2 ∧ (ts.length : Int) = 2 + rd ns 5 + 2 * ((ns.length - 6 : Nat) : Int) then
  (record_Encode.f k (rd ns 0) (rd ns 1) (rd ns 2) (rd ns 3) (rdOf ByteArray.empty ts 0) (rdOf ByteArray.empty ts 1) (rd ns 4 == 1) ((ts.take (2 + rd ns 5).toNat).drop 2) (wsOf (ns.drop 6) (ts.drop (2 + rd ns 5).toNat) (ns.length - 6))).bind fun be => if be.2 = 0 ∧ be.1 = s then some ((rd ns 0), (rd ns 1), (rd ns 2), (rd ns 3), (rdOf ByteArray.empty ts 0), (rdOf ByteArray.empty ts 1), (rd ns 4 == 1), ((ts.take (2 + rd ns 5).toNat).drop 2), wsOf (ns.drop 6) (ts.drop (2 + rd ns 5).toNat) (ns.length - 6), 0) else some noLet
 else some noLet
def decF (k : Nat) (s : ByteArray) : Option RLet :=
 (pack_Decode.f s).bind fun d => if d.2.2.2 = 0 ∧ 6 ≤ d.1.length ∧ 2 ≤ d.2.1.length then letOf k s d.1 d.2.1 else some noLet
theorem nolet_E {w : World} {e : Ending} {w' : World} (h : NoLetE w e w') : RLetE w noLet e w' := ⟨.slice none 0 0, .slice none 0 0, h.1, Kd.R_nil _ _ _ _ _, Kd.R_nil _ _ _ _ _, h.2⟩
theorem decF_calls (k : Nat) (s : ByteArray) (r : RLet) (w : World) (h : decF k s = some r) : Calls Try.prog 18 #[.string s] w (RLetE w r) := by
 unfold decF at h
 cases hd : pack_Decode.f s with
 |none => rw [hd] at h; cases h
 |some d =>
  obtain ⟨ns, ts, p, e⟩ := d
  rw [hd, Option.bind_some] at h
  have hl : ns.length ≤ 1024 ∧ ts.length ≤ 1024 := by
   unfold pack_Decode.f at hd
   split at hd
   ·simp only [Option.some.injEq, Prod.mk.injEq] at hd
    rw [← hd.1, ← hd.2.1]; exact DecLen.dec_len s
   ·cases hd
  have no : ∀ (_ : Calls Try.prog 18 #[.string s] w (NoLetE w)) (_ : some noLet = some r), Calls Try.prog 18 #[.string s] w (RLetE w r) := fun hc hr => by
   obtain rfl := Option.some.inj hr
   exact hc.mono fun e w' he => nolet_E he
  by_cases c : e = 0 ∧ 6 ≤ ns.length ∧ 2 ≤ ts.length
  ·rw [if_pos c] at h
   obtain ⟨he, hn, ht⟩ := c
   have he' : e = 0 := he
   subst he'
   unfold letOf at h
   by_cases m : 0 ≤ rd ns 5 ∧ rd ns 5 ≤ (ts.length : Int) - 2 ∧ (ts.length : Int) = 2 + rd ns 5 + 2 * ((ns.length - 6 : Nat) : Int)
   ·rw [if_pos m] at h
    cases hb : record_Encode.f k (rd ns 0) (rd ns 1) (rd ns 2) (rd ns 3) (rdOf ByteArray.empty ts 0) (rdOf ByteArray.empty ts 1) (rd ns 4 == 1) ((ts.take (2 + rd ns 5).toNat).drop 2) (wsOf (ns.drop 6) (ts.drop (2 + rd ns 5).toNat) (ns.length - 6)) with
    |none => rw [hb] at h; cases h
    |some q =>
     obtain ⟨bb, ee⟩ := q
     rw [hb, Option.bind_some] at h
     refine ld_go s ns ts p w hd hn ht hl.2 hl.1 m.1 m.2.1 m.2.2 k bb ee hb r ?_
     by_cases hx : ee = 0 ∧ bb = s
     ·rw [if_pos hx] at h ⊢
      exact Option.some.inj h
     ·rw [if_neg hx] at h ⊢
      exact Option.some.inj h
   ·rw [if_neg m] at h
    by_cases m0 : rd ns 5 < 0
    ·exact no (ld_m1 s ns ts p w hd hn ht m0) h
    ·by_cases m1 : (ts.length : Int) - 2 < rd ns 5
     ·exact no (ld_m2 s ns ts p w hd hn ht hl.2 (by omega) m1) h
     ·exact no (ld_m3 s ns ts p w hd hn ht hl.2 hl.1 (by omega) (by omega) (fun hc => m ⟨by omega, by omega, hc⟩)) h
  ·rw [if_neg c] at h
   by_cases he : e = 0
   ·subst he
    by_cases hn : ns.length < 6
    ·exact no (ld_n s ns ts p w hd hn) h
    ·have : ts.length < 2 := by
      rcases Nat.lt_or_ge ts.length 2 with h2 | h2
      ·exact h2
      ·exact absurd ⟨rfl, by omega, h2⟩ c
     exact no (ld_t s ns ts p w hd (by omega) this) h
   ·exact no (ld_e s ns ts p e w hd he) h
end RD
def record_Decode.f (k : Nat) (a0 : ByteArray) : Option (Int × Int × Int × Int × ByteArray × ByteArray × Bool × List ByteArray × List S50 × Int) := RD.decF k a0
theorem record_Decode.mono : ∀ a0 k, LeO (record_Decode.f k a0) (record_Decode.f (k + 1) a0) := by
 intro a0 k
 unfold record_Decode.f RD.decF
 refine LeO.bind (LeO.refl _) (fun d => LeO.ite ?_ (LeO.refl _))
 unfold RD.letOf
 exact LeO.ite (LeO.bind (record_Encode.mono _ _ _ _ _ _ _ _ _ _) (fun _ => LeO.refl _)) (LeO.refl _)
theorem record_Decode.calls (k : Nat) (a0 : ByteArray) (r1 r2 r3 r4 : Int) (r5 r6 : ByteArray) (r7 : Bool) (r8 : List ByteArray) (r9 : List S50) (r10 : Int) (w : World) (h : record_Decode.f k a0 = some (r1, r2, r3, r4, r5, r6, r7, r8, r9, r10)) :
  Calls Try.prog 18 #[.string a0] w fun e w' => ∃ v7_ v8_ : Value, e = .returned (.tuple #[.agg #[.int .i64 r1, .int .i64 r2, .int .i64 r3, .int .i64 r4, .string r5, .string r6, .bool r7, v7_, v8_], .int .i64 r10]) ∧ Kd.R Kd.string 9 w' w.heap.size (fun _ => True) v7_ r8 ∧ Kd.R k50 50 w' w.heap.size (fun _ => True) v8_ r9 ∧ Below w.heap.size w w' := RD.decF_calls k a0 (r1, r2, r3, r4, r5, r6, r7, r8, r9, r10) w h
end Go.Proofs.Ytbfjbcaabijpfaa.Al

namespace Go.Proofs.Ytbfjbcaabijpfaa.LetSpec
open Go.RowKit Go.Proofs.Ytbfjbcaabijpfaa.Base Go.Proofs.Ytbfjbcaabijpfaa.Al Go.Proofs.YtbfjbcaabijpfaaW.PrintWords
theorem Ev.to {α : Type} {g : Nat → Option α} {r r' : α} (h : Ev g r) (e : r = r') : Ev g r' := e ▸ h
/-- What the reference's switch gives. -/
def refV (code kind : Int) (one bare : Bool) (x6 : ByteArray) (x7 : List ByteArray) (x8 : List S50) : Int :=
 if kind = 1 then (if one = true ∧ x6.toList = [] ∧ code = 0 then 0 else 70)
 else if kind = 2 then (if one = true ∧ x6.size ≤ 2052 ∧ (x6.toList = [] ∨ code = 1) then 0 else 70)
 else if kind = 3 then (if x7.length ≤ 16 ∧ risB x7 = true ∧ wriB x8 = true ∧ x6.toList = [] ∧ code = 0 then 0 else 70)
 else if kind = 4 then (if bare = true ∧ code ≤ 1 then 0 else 70)
 else if kind = 5 ∨ kind = 6 ∨ kind = 7 then (if bare = true ∧ code = 0 then 0 else 70)
 else if kind = 8 then (if bare = true ∧ code ≤ 2 then 0 else 70)
 else 70
def oneB (x7 : List ByteArray) (x8 : List S50) : Bool := decide (x7.length = 1) && (keyB (rdOf ByteArray.empty x7 0) && decide (x8.length = 0))
def bareB (x6 : ByteArray) (x7 : List ByteArray) (x8 : List S50) : Bool := decide (x7.length = 0) && (decide (x8.length = 0) && x6.toList.isEmpty)
section
variable (x0 x1 x2 x3 x4 x5 : Int) (x6 : ByteArray) (x7 : List ByteArray) (x8 : List S50)
/-- The two checks are one. -/
theorem ref_chk : chkL x0 x1 x2 x3 x4 x5 x6 x7 x8 = if addrB x1 = true ∧ addrB x2 = true ∧ 1 ≤ x3 ∧ x3 ≤ 1125899906842623 ∧ 0 ≤ x4 ∧ x4 ≤ 1125899906842624 ∧ 0 ≤ x5 ∧ x5 ≤ 4 then refV x5 x0 (oneB x7 x8) (bareB x6 x7 x8) x6 x7 x8 else 70 := by
 unfold chkL
 by_cases h : addrB x1 = true ∧ addrB x2 = true ∧ 1 ≤ x3 ∧ x3 ≤ 1125899906842623 ∧ 0 ≤ x4 ∧ x4 ≤ 1125899906842624 ∧ 0 ≤ x5
 ·rw [if_pos h]
  obtain ⟨g0, g1, g2, g3, g4, g5, g6⟩ := h
  have e7 : ((x7.length : Int) == 0) = decide (x7.length = 0) := by by_cases h : x7.length = 0 <;> simp [h]
  have e8 : ((x8.length : Int) == 0) = decide (x8.length = 0) := by by_cases h : x8.length = 0 <;> simp [h]
  by_cases h4 : x5 ≤ 4
  ·rw [if_pos ⟨g0, g1, g2, g3, g4, g5, g6, h4⟩]
   unfold sw refV oneB bareB
   rw [e7, e8]
   by_cases n1 : x0 = 1
   ·subst n1
    simp only [if_neg (show ¬ (1 : Int) = 2 by omega), if_true, fin4]
    apply ite_congr _ (fun _ => rfl) (fun _ => rfl)
    simp only [Bool.and_eq_true, decide_eq_true_eq, List.isEmpty_iff, eq_iff_iff]
    constructor
    ·rintro ⟨a, ⟨b, c⟩, d, e⟩; exact ⟨⟨b, c, d⟩, e, by omega⟩
    ·rintro ⟨⟨b, c, d⟩, e, f⟩; exact ⟨by omega, ⟨b, c⟩, d, e⟩
   by_cases n2 : x0 = 2
   ·subst n2
    simp only [if_neg (show ¬ (2 : Int) = 1 by omega), if_true, fin4]
    apply ite_congr _ (fun _ => rfl) (fun _ => rfl)
    simp only [Bool.and_eq_true, Bool.or_eq_true, decide_eq_true_eq, List.isEmpty_iff, eq_iff_iff, beq_iff_eq]
    constructor
    ·rintro ⟨a, ⟨b, c⟩, d, e, f⟩; exact ⟨⟨b, c, d⟩, e, f⟩
    ·rintro ⟨⟨b, c, d⟩, e, f⟩; exact ⟨h4, ⟨b, c⟩, d, e, f⟩
   by_cases n3 : x0 = 3
   ·subst n3
    simp only [if_neg (show ¬ (3 : Int) = 1 by omega), if_neg (show ¬ (3 : Int) = 2 by omega), if_true, fin4]
    apply ite_congr _ (fun _ => rfl) (fun _ => rfl)
    simp only [Bool.and_eq_true, decide_eq_true_eq, List.isEmpty_iff, eq_iff_iff]
    constructor
    ·rintro ⟨a, ⟨b, c⟩, d, e⟩; exact ⟨b, c, d, e, by omega⟩
    ·rintro ⟨b, c, d, e, f⟩; exact ⟨by omega, ⟨b, c⟩, d, e⟩
   by_cases n4 : x0 = 4
   ·subst n4
    simp only [if_neg (show ¬ (4 : Int) = 1 by omega), if_neg (show ¬ (4 : Int) = 2 by omega), if_neg (show ¬ (4 : Int) = 3 by omega), if_neg (show ¬ (4 : Int) = 8 by omega), if_true, fin4]
    apply ite_congr _ (fun _ => rfl) (fun _ => rfl)
    simp only [Bool.and_eq_true, decide_eq_true_eq, List.isEmpty_iff, eq_iff_iff]
    constructor
    ·rintro ⟨a, b, c, d⟩; exact ⟨⟨b, c, d⟩, a⟩
    ·rintro ⟨⟨b, c, d⟩, a⟩; exact ⟨a, b, c, d⟩
   by_cases n8 : x0 = 8
   ·subst n8
    simp only [if_neg (show ¬ (8 : Int) = 1 by omega), if_neg (show ¬ (8 : Int) = 2 by omega), if_neg (show ¬ (8 : Int) = 3 by omega), if_neg (show ¬ (8 : Int) = 4 by omega), if_neg (show ¬ ((8 : Int) = 5 ∨ (8 : Int) = 6 ∨ (8 : Int) = 7) by omega), if_true, fin4]
    apply ite_congr _ (fun _ => rfl) (fun _ => rfl)
    simp only [Bool.and_eq_true, decide_eq_true_eq, List.isEmpty_iff, eq_iff_iff]
    constructor
    ·rintro ⟨a, b, c, d⟩; exact ⟨⟨b, c, d⟩, a⟩
    ·rintro ⟨⟨b, c, d⟩, a⟩; exact ⟨a, b, c, d⟩
   by_cases n5 : x0 = 5 ∨ x0 = 6 ∨ x0 = 7
   ·rw [if_neg n2, if_neg n1, if_neg n3, if_neg n8, if_neg n4, if_pos n5, if_neg n1, if_neg n2, if_neg n3, if_neg n4, if_pos n5]
    simp only [fin4]
    apply ite_congr _ (fun _ => rfl) (fun _ => rfl)
    simp only [Bool.and_eq_true, decide_eq_true_eq, List.isEmpty_iff, eq_iff_iff]
    constructor
    ·rintro ⟨a, b, c, d⟩; exact ⟨⟨b, c, d⟩, by omega⟩
    ·rintro ⟨⟨b, c, d⟩, a⟩; exact ⟨by omega, b, c, d⟩
   ·rw [if_neg n2, if_neg n1, if_neg n3, if_neg n8, if_neg n4, if_neg n5, if_neg n1, if_neg n2, if_neg n3, if_neg n4, if_neg n5, if_neg n8]
    rfl
  ·rw [if_neg (fun hc => h4 hc.2.2.2.2.2.2.2)]
   unfold sw
   split
   ·exact if_neg (fun hc => by omega)
   split
   ·exact if_neg (fun hc => by omega)
   split
   ·exact if_neg (fun hc => by omega)
   split
   ·exact if_neg (fun hc => by omega)
   split
   ·exact if_neg (fun hc => by omega)
   split
   ·exact if_neg (fun hc => by omega)
   ·rfl
 ·rw [if_neg h, if_neg (fun hc => h ⟨hc.1, hc.2.1, hc.2.2.1, hc.2.2.2.1, hc.2.2.2.2.1, hc.2.2.2.2.2.1, hc.2.2.2.2.2.2.1⟩)]
end
end Go.Proofs.Ytbfjbcaabijpfaa.LetSpec

namespace Go.Proofs.Ytbfjbcaabijpfaa.RecSpec
open Go.RowKit Go.Proofs.Ytbfjbcaabijpfaa.Base Go.Proofs.Ytbfjbcaabijpfaa.LetSpec Go.Proofs.Ytbfjbcaabijpfaa.Al Go.Proofs.YtbfjbcaabijpfaaW.PrintWords
set_option linter.unusedVariables false
set_option linter.unusedSimpArgs false
theorem none_iff (l7 : List ByteArray) (l8 : List S50) : noneB l7 l8 = true ↔ l7.length = 0 ∧ l8.length = 0 := by
 unfold noneB
 simp only [beq_iff_eq]
 omega
theorem list_iff (l7 : List ByteArray) (l8 : List S50) : listB l7 l8 = true ↔ l7.length ≤ 16 ∧ risB l7 = true ∧ wriB l8 = true := by
 unfold listB
 rw [ref_chk, if_pos (by refine ⟨by decide, by decide, ?_⟩; omega)]
 unfold refV
 simp only [if_neg (show ¬ (3 : Int) = 1 by omega), if_neg (show ¬ (3 : Int) = 2 by omega), if_true, beq_iff_eq]
 have he : (⟨#[]⟩ : ByteArray).toList = [] := by rw [toList_eq]; rfl
 constructor
 ·intro h
  obtain ⟨h1, h2, h3, _⟩ := if70' h
  exact ⟨h1, h2, h3⟩
 ·rintro ⟨h1, h2, h3⟩
  exact if_pos ⟨h1, h2, h3, he, trivial⟩
where
 if70' {c : Prop} [Decidable c] (h : (if c then (0 : Int) else 70) = 0) : c := by
  by_cases hc : c
  ·exact hc
  ·rw [if_neg hc] at h; cases h
/-- No key, no text, not dead. -/
def bareT (a4 a5 : ByteArray) (a6 : Bool) : Prop := a4.toList = [] ∧ a5.toList = [] ∧ a6 = false
instance (a4 a5 : ByteArray) (a6 : Bool) : Decidable (bareT a4 a5 a6) := inferInstanceAs (Decidable (_ ∧ _ ∧ _))
def headP (a1 a2 a3 : Int) : Prop := 0 ≤ a1 ∧ a1 ≤ 1125899906842623 ∧ 0 ≤ a2 ∧ a2 ≤ 1125899906842624 ∧ 0 ≤ a3 ∧ a3 < 16
instance (a1 a2 a3 : Int) : Decidable (headP a1 a2 a3) := inferInstanceAs (Decidable (_ ∧ _ ∧ _ ∧ _ ∧ _ ∧ _))
theorem head_iff (a1 a2 a3 : Int) : headB a1 a2 a3 = true ↔ ¬ headP a1 a2 a3 := by
 unfold headB headP
 simp only [Bool.or_eq_true, decide_eq_true_eq]
 omega
/-- May it be, of its kind? -/
def okK (a0 a1 a2 a3 : Int) (a4 a5 : ByteArray) (a6 : Bool) (l7 : List ByteArray) (l8 : List S50) : Prop :=
 if a0 = 1 then (l7.length ≤ 16 ∧ risB l7 = true ∧ wriB l8 = true) ∧ 0 < a1 ∧ bareT a4 a5 a6
 else if a0 = 2 then (l7.length = 0 ∧ l8.length = 0) ∧ 0 < a1 ∧ a3 = 0 ∧ bareT a4 a5 a6
 else if a0 = 5 then (l7.length = 0 ∧ l8.length = 0) ∧ 0 < a1 ∧ 0 < a2 ∧ a3 = 0 ∧ bareT a4 a5 a6
 else if a0 = 6 then (l7.length = 0 ∧ l8.length = 0) ∧ 0 < a1 ∧ a2 = 0 ∧ a3 = 0 ∧ bareT a4 a5 a6
 else if a0 = 3 then (l7.length = 0 ∧ l8.length = 0) ∧ 0 < a2 ∧ keyB a4 = true ∧ a5.size ≤ 2052 ∧ (a6 = true → a5.toList = []) ∧ a1 = 0 ∧ a3 = 0
 else if a0 = 4 then (l7.length = 0 ∧ l8.length = 0) ∧ a1 = 0 ∧ a3 = 0 ∧ bareT a4 a5 a6
 else if a0 = 7 then (l7.length = 0 ∧ l8.length = 0) ∧ 0 < a2 ∧ a1 = 0 ∧ a3 = 0 ∧ bareT a4 a5 a6
 else False
instance (a0 a1 a2 a3 : Int) (a4 a5 : ByteArray) (a6 : Bool) (l7 : List ByteArray) (l8 : List S50) : Decidable (okK a0 a1 a2 a3 a4 a5 a6 l7 l8) := by
 unfold okK
 infer_instance
theorem nil_toList : (⟨#[]⟩ : ByteArray).toList = [] := by rw [toList_eq]; rfl
theorem neq_iff (w0 w1 w2 w3 : Int) (w4 w5 : ByteArray) (w6 : Bool) (a0 a1 a2 a3 : Int) (a4 a5 : ByteArray) (a6 : Bool) : neqR w0 w1 w2 w3 w4 w5 w6 a0 a1 a2 a3 a4 a5 a6 = true ↔ ¬ (w0 = a0 ∧ w1 = a1 ∧ w2 = a2 ∧ w3 = a3 ∧ w4.toList = a4.toList ∧ w5.toList = a5.toList ∧ w6 = a6) := by
 unfold neqR
 simp only [Bool.or_eq_true, Bool.not_eq_true', beq_eq_false_iff_ne, ne_eq]
 constructor
 ·rintro h ⟨h0, h1, h2, h3, h4, h5, h6⟩
  rcases h with h | h | h | h | h | h | h <;> exact h (by assumption)
 ·intro h
  by_cases h0 : w0 = a0
  ·by_cases h1 : w1 = a1
   ·by_cases h2 : w2 = a2
    ·by_cases h3 : w3 = a3
     ·by_cases h4 : w4.toList = a4.toList
      ·by_cases h5 : w5.toList = a5.toList
       ·exact .inr (.inr (.inr (.inr (.inr (.inr (fun h6 => h ⟨h0, h1, h2, h3, h4, h5, h6⟩))))))
       ·exact .inr (.inr (.inr (.inr (.inr (.inl h5)))))
      ·exact .inr (.inr (.inr (.inr (.inl h4))))
     ·exact .inr (.inr (.inr (.inl h3)))
    ·exact .inr (.inr (.inl h2))
   ·exact .inr (.inl h1)
  ·exact .inl h0
theorem fin_eq (b : Bool) (w0 w1 w2 w3 : Int) (w4 w5 : ByteArray) (w6 : Bool) (a0 a1 a2 a3 : Int) (a4 a5 : ByteArray) (a6 : Bool) (p : Prop) [Decidable p] (h : p ↔ b = true ∧ w0 = a0 ∧ w1 = a1 ∧ w2 = a2 ∧ w3 = a3 ∧ w4.toList = a4.toList ∧ w5.toList = a5.toList ∧ w6 = a6) : finR b w0 w1 w2 w3 w4 w5 w6 a0 a1 a2 a3 a4 a5 a6 = if p then 0 else 80 := by
 unfold finR
 by_cases hb : b = true
 ·rw [if_pos hb]
  by_cases hp : p
  ·rw [if_pos hp, if_neg (fun hc => (neq_iff ..).1 hc (h.1 hp).2)]
  ·rw [if_neg hp, if_pos ((neq_iff ..).2 (fun hc => hp (h.2 ⟨hb, hc⟩)))]
 ·rw [if_neg hb, if_neg (fun hp => hb (h.1 hp).1)]
theorem bare_iff (a4 a5 : ByteArray) (a6 : Bool) : bareT a4 a5 a6 ↔ (⟨#[]⟩ : ByteArray).toList = a4.toList ∧ (⟨#[]⟩ : ByteArray).toList = a5.toList ∧ false = a6 := by
 unfold bareT
 rw [nil_toList]
 constructor
 ·rintro ⟨h1, h2, h3⟩; exact ⟨h1.symm, h2.symm, h3.symm⟩
 ·rintro ⟨h1, h2, h3⟩; exact ⟨h1.symm, h2.symm, h3.symm⟩
theorem chkK_eq (a0 a1 a2 a3 : Int) (a4 a5 : ByteArray) (a6 : Bool) (l7 : List ByteArray) (l8 : List S50) : chkK a0 a1 a2 a3 a4 a5 a6 l7 l8 = if okK a0 a1 a2 a3 a4 a5 a6 l7 l8 then 0 else 80 := by
 unfold chkK okK
 by_cases n1 : a0 = 1
 ·simp only [if_pos n1]
  refine fin_eq _ _ _ _ _ _ _ _ _ _ _ _ _ _ _ _ ?_
  rw [Bool.and_eq_true, list_iff, decide_eq_true_eq, bare_iff]
  constructor
  ·rintro ⟨h1, h2, h3⟩; exact ⟨⟨h1, h2⟩, rfl, rfl, rfl, rfl, h3⟩
  ·rintro ⟨⟨h1, h2⟩, _, _, _, _, h3⟩; exact ⟨h1, h2, h3⟩
 simp only [if_neg n1]
 by_cases n2 : a0 = 2
 ·simp only [if_pos n2]
  refine fin_eq _ _ _ _ _ _ _ _ _ _ _ _ _ _ _ _ ?_
  rw [Bool.and_eq_true, none_iff, decide_eq_true_eq, bare_iff]
  constructor
  ·rintro ⟨h1, h2, h3, h4⟩; exact ⟨⟨h1, h2⟩, rfl, rfl, rfl, h3.symm, h4⟩
  ·rintro ⟨⟨h1, h2⟩, _, _, _, h3, h4⟩; exact ⟨h1, h2, h3.symm, h4⟩
 simp only [if_neg n2]
 by_cases n5 : a0 = 5
 ·simp only [if_pos n5]
  refine fin_eq _ _ _ _ _ _ _ _ _ _ _ _ _ _ _ _ ?_
  rw [Bool.and_eq_true, Bool.and_eq_true, none_iff, decide_eq_true_eq, decide_eq_true_eq, bare_iff]
  constructor
  ·rintro ⟨h1, h2, h2', h3, h4⟩; exact ⟨⟨h1, h2, h2'⟩, rfl, rfl, rfl, h3.symm, h4⟩
  ·rintro ⟨⟨h1, h2, h2'⟩, _, _, _, h3, h4⟩; exact ⟨h1, h2, h2', h3.symm, h4⟩
 simp only [if_neg n5]
 by_cases n6 : a0 = 6
 ·simp only [if_pos n6]
  refine fin_eq _ _ _ _ _ _ _ _ _ _ _ _ _ _ _ _ ?_
  rw [Bool.and_eq_true, none_iff, decide_eq_true_eq, bare_iff]
  constructor
  ·rintro ⟨h1, h2, h3, h4, h5⟩; exact ⟨⟨h1, h2⟩, rfl, rfl, h3.symm, h4.symm, h5⟩
  ·rintro ⟨⟨h1, h2⟩, _, _, h3, h4, h5⟩; exact ⟨h1, h2, h3.symm, h4.symm, h5⟩
 simp only [if_neg n6]
 by_cases n3 : a0 = 3
 ·simp only [if_pos n3]
  refine fin_eq _ _ _ _ _ _ _ _ _ _ _ _ _ _ _ _ ?_
  unfold verB
  simp only [Bool.and_eq_true, none_iff, decide_eq_true_eq, Bool.not_eq_true', Bool.and_eq_false_iff, Bool.not_eq_false', List.isEmpty_iff]
  constructor
  ·rintro ⟨h1, h2, h3, h4, h5, h6, h7⟩
   refine ⟨⟨h1, h2, h3, h4, ?_⟩, trivial, h6.symm, trivial, h7.symm, trivial, trivial, trivial⟩
   by_cases hd : a6 = true
   ·exact .inr (h5 hd)
   ·exact .inl (by simpa using hd)
  ·rintro ⟨⟨h1, h2, h3, h4, h5⟩, _, h6, _, h7, _⟩
   exact ⟨h1, h2, h3, h4, fun hd => h5.elim (fun h => by rw [h] at hd; cases hd) id, h6.symm, h7.symm⟩
 simp only [if_neg n3]
 by_cases n4 : a0 = 4
 ·simp only [if_pos n4]
  refine fin_eq _ _ _ _ _ _ _ _ _ _ _ _ _ _ _ _ ?_
  rw [none_iff, bare_iff]
  constructor
  ·rintro ⟨h1, h2, h3, h4⟩; exact ⟨h1, rfl, h2.symm, rfl, h3.symm, h4⟩
  ·rintro ⟨h1, _, h2, _, h3, h4⟩; exact ⟨h1, h2.symm, h3.symm, h4⟩
 simp only [if_neg n4]
 by_cases n7 : a0 = 7
 ·simp only [if_pos n7]
  refine fin_eq _ _ _ _ _ _ _ _ _ _ _ _ _ _ _ _ ?_
  rw [Bool.and_eq_true, none_iff, decide_eq_true_eq, bare_iff]
  constructor
  ·rintro ⟨h1, h2, h3, h4, h5⟩; exact ⟨⟨h1, h2⟩, rfl, h3.symm, rfl, h4.symm, h5⟩
  ·rintro ⟨⟨h1, h2⟩, _, h3, _, h4, h5⟩; exact ⟨h1, h2, h3.symm, h4.symm, h5⟩
 simp only [if_neg n7]
 rfl
def okR (a0 a1 a2 a3 : Int) (a4 a5 : ByteArray) (a6 : Bool) (l7 : List ByteArray) (l8 : List S50) : Prop := headP a1 a2 a3 ∧ okK a0 a1 a2 a3 a4 a5 a6 l7 l8
instance (a0 a1 a2 a3 : Int) (a4 a5 : ByteArray) (a6 : Bool) (l7 : List ByteArray) (l8 : List S50) : Decidable (okR a0 a1 a2 a3 a4 a5 a6 l7 l8) := inferInstanceAs (Decidable (_ ∧ _))
theorem chkR_eq (a0 a1 a2 a3 : Int) (a4 a5 : ByteArray) (a6 : Bool) (l7 : List ByteArray) (l8 : List S50) : chkR a0 a1 a2 a3 a4 a5 a6 l7 l8 = if okR a0 a1 a2 a3 a4 a5 a6 l7 l8 then 0 else 80 := by
 unfold chkR
 by_cases h : headP a1 a2 a3
 ·rw [if_neg (fun hc => (head_iff ..).1 hc h), chkK_eq]
  by_cases k : okK a0 a1 a2 a3 a4 a5 a6 l7 l8
  ·exact (if_pos k).trans (if_pos (show okR a0 a1 a2 a3 a4 a5 a6 l7 l8 from ⟨h, k⟩)).symm
  ·exact (if_neg k).trans (if_neg (fun hc : okR a0 a1 a2 a3 a4 a5 a6 l7 l8 => k hc.2)).symm
 ·rw [if_pos ((head_iff ..).2 h)]
  exact (if_neg (fun hc : okR a0 a1 a2 a3 a4 a5 a6 l7 l8 => h hc.1)).symm
theorem rcheck_eq (a0 a1 a2 a3 : Int) (a4 a5 : ByteArray) (a6 : Bool) (l7 : List ByteArray) (l8 : List S50) (h7 : l7.length ≤ 8796093022000) (h8 : l8.length ≤ 8796093022000) : record_Check.f a0 a1 a2 a3 a4 a5 a6 l7 l8 = some (if okR a0 a1 a2 a3 a4 a5 a6 l7 l8 then 0 else 80) := by
 unfold record_Check.f
 rw [if_pos ⟨h7, h8⟩, chkR_eq]
end Go.Proofs.Ytbfjbcaabijpfaa.RecSpec

namespace Go.Proofs.Ytbfjbcaabijpfaa.PackFns
open Go.RowKit Go.Proofs.Ytbfjbcaabijpfaa.Base Go.Proofs.Ytbfjbcaabijpfaa.PackMath Go.Proofs.Ytbfjbcaabijpfaa.Al Go.Proofs.YtbfjbcaabijpfaaW.PrintWords
theorem may_eq (n : Int) : pack_may.f n = some (okNum n) := by
 unfold pack_may.f okNum
 by_cases h : n ≥ -4611686018427387904
 ·rw [if_pos h, decide_eq_true (show (-4611686018427387904 : Int) ≤ n from h)]; rfl
 ·rw [if_neg h, decide_eq_false (show ¬ (-4611686018427387904 : Int) ≤ n from h)]; rfl
theorem step_byte (n : Nat) : (((Int.tmod (n : Int) 128) % 256) + 128) % 256 = ((n % 128 + 128 : Nat) : Int) := by
 rw [Int.tmod_eq_emod_of_nonneg (by omega)]; omega
theorem step_rest (n : Nat) : Int.tdiv (n : Int) 128 = ((n / 128 : Nat) : Int) := by
 rw [Int.tdiv_eq_ediv_of_nonneg (by omega)]; omega
theorem put_int_l0 : ∀ (n : Nat) (xs : List Int), n < 9223372036854775808 → xs.length + (plain n).length ≤ 140737488355328 → Ev (fun k => pack_put_int.l0 k xs (n : Int)) (xs ++ plain n) := by
 intro n
 induction n using Nat.strongRecOn with
 |ind n ih =>
  intro xs hn hx
  by_cases h1 : n < 128
  ·rw [plain_small h1] at hx ⊢
   simp at hx
   refine Ev.step (fun k => by simp only [pack_put_int.l0]; rw [if_neg (by omega), if_pos (by omega)]) ?_
   rw [show (n : Int) % 256 = n from by omega]
   exact Ev.now _
  ·rw [plain_big (by omega)] at hx ⊢
   simp at hx
   refine Ev.step (fun k => by simp only [pack_put_int.l0]; rw [if_pos (by omega), if_pos (by omega)]) ?_
   rw [step_byte, step_rest, wrap_id (by omega) (by omega)]
   have := ih (n / 128) (by omega) (xs ++ [((n % 128 + 128 : Nat) : Int)]) (by omega) (by simp; omega)
   simpa using this
theorem put_u64_l0 : ∀ (n : Nat) (xs : List Int), n < 18446744073709551616 → xs.length + (plain n).length ≤ 140737488355328 → Ev (fun k => pack_put_uint64.l0 k xs (n : Int)) (xs ++ plain n) := by
 intro n
 induction n using Nat.strongRecOn with
 |ind n ih =>
  intro xs hn hx
  by_cases h1 : n < 128
  ·rw [plain_small h1] at hx ⊢
   simp at hx
   refine Ev.step (fun k => by simp only [pack_put_uint64.l0]; rw [if_neg (by omega), if_pos (by omega)]) ?_
   rw [show (n : Int) % 256 = n from by omega]
   exact Ev.now _
  ·rw [plain_big (by omega)] at hx ⊢
   simp at hx
   refine Ev.step (fun k => by simp only [pack_put_uint64.l0]; rw [if_pos (by omega), if_pos (by omega)]) ?_
   rw [step_byte, step_rest, IntKind.wrap_u64, show (((n / 128 : Nat) : Int) % 18446744073709551616) = ((n / 128 : Nat) : Int) from by omega]
   have := ih (n / 128) (by omega) (xs ++ [((n % 128 + 128 : Nat) : Int)]) (by omega) (by simp; omega)
   simpa using this
theorem put_int_ev (n : Nat) (xs : List Int) (hn : n < 9223372036854775808) (hx : xs.length ≤ 140737488355300) : Ev (fun k => pack_put_int.f k xs (n : Int)) (xs ++ plain n) :=
 put_int_l0 n xs hn (by have := plain_len9 hn; omega)
/-- The bits of a signed number, as the program turns them. -/
theorem zig_go (n : Int) (h0 : -4611686018427387904 ≤ n) (h1 : n ≤ 4611686018427387903) : Go.bits .xor .u64 (IntKind.u64.wrap ((IntKind.u64.wrap n) * 2)) (IntKind.u64.wrap (n / 9223372036854775808)) = (zig n : Int) := by
 rw [IntKind.wrap_u64, IntKind.wrap_u64, IntKind.wrap_u64]
 by_cases hn : n < 0
 ·obtain ⟨m, hm⟩ : ∃ m : Nat, n = -(m : Int) - 1 := ⟨(-n - 1).toNat, by omega⟩
  have e1 : (n % 18446744073709551616 * 2) % 18446744073709551616 = ((18446744073709551616 - 2 * (m + 1) : Nat) : Int) := by omega
  have e2 : (n / 9223372036854775808) % 18446744073709551616 = ((18446744073709551615 : Nat) : Int) := by omega
  rw [e1, e2, bits_xor_u64_nat _ _ (by omega) (by omega)]
  have e3 : (18446744073709551616 - 2 * (m + 1)) ^^^ 18446744073709551615 = 2 * m + 1 := by
   have hb := BitVec.toNat_not (x := BitVec.ofNat 64 (18446744073709551616 - 2 * (m + 1)))
   rw [← BitVec.xor_allOnes, BitVec.toNat_xor, BitVec.toNat_ofNat, BitVec.toNat_allOnes, Nat.mod_eq_of_lt (by omega)] at hb
   rw [show (18446744073709551615 : Nat) = 2 ^ 64 - 1 from rfl, hb]
   omega
  rw [e3]
  unfold zig
  rw [if_pos hn]
  omega
 ·have e1 : (n % 18446744073709551616 * 2) % 18446744073709551616 = (((2 * n).toNat : Nat) : Int) := by omega
  have e2 : (n / 9223372036854775808) % 18446744073709551616 = ((0 : Nat) : Int) := by omega
  rw [e1, e2, bits_xor_u64_nat _ _ (by omega) (by omega), Nat.xor_zero]
  unfold zig
  rw [if_neg hn]
theorem signed_ev (n : Int) (xs : List Int) (h0 : -4611686018427387904 ≤ n) (h1 : n ≤ 4611686018427387903) (hx : xs.length ≤ 140737488355300) : Ev (fun k => pack_signed.f k xs n) (xs ++ signed n) := by
 have hz := zig_lt h0 h1
 unfold pack_signed.f
 rw [zig_go n h0 h1]
 exact Ev.bind (put_u64_l0 (zig n) xs (by omega) (by have := plain_len9 hz; omega)) (Ev.now _)
/-- Check. -/
theorem check_l1 (texts : List ByteArray) (ht : texts.length ≤ 1024) : ∀ (d i : Nat), i + d = texts.length → Ev (fun k => pack_Check.l1 k texts (texts.length : Int) (i : Int)) (if (texts.drop i).all okText = false then 2 else 0)
 |0, i, h => by
  rw [List.drop_of_length_le (by omega), if_neg (by simp)]
  exact Ev.step (fun k => by simp only [pack_Check.l1]; rw [if_neg (by omega)]) (Ev.now _)
 |d + 1, i, h => by
  have hi : i < texts.length := by omega
  have e : wrap64 ((i : Int) + 1) = ((i + 1 : Nat) : Int) := by rw [wrap_id (by omega) (by omega)]; omega
  have hr : rdOf ByteArray.empty texts (i : Int) = texts[i] := by simp [rdOf, List.getD_eq_getElem?_getD, hi]
  have ih := check_l1 texts ht d (i + 1) (by omega)
  rw [List.drop_eq_getElem_cons hi, List.all_cons]
  refine Ev.step (fun k => by simp only [pack_Check.l1]; rw [if_pos (by omega), if_pos (by omega), if_pos (by omega), hr, e]) ?_
  by_cases hs : texts[i].size ≤ 4096
  ·rw [okText_iff.2 hs, Bool.true_and]
   exact Ev.neg (by omega) ih
  ·rw [show okText texts[i] = false from by simpa [okText] using hs, Bool.false_and, if_pos rfl]
   exact Ev.pos (by omega) (Ev.now _)
theorem check_l0 (nums : List Int) (texts : List ByteArray) (hn : nums.length ≤ 1024) (ht : texts.length ≤ 1024) : ∀ (d i : Nat), i + d = nums.length →
  Ev (fun k => pack_Check.l0 k nums (nums.length : Int) (i : Int) nums texts) (if (nums.drop i).all okNum = false then 1 else if texts.all okText = false then 2 else 0)
 |0, i, h => by
  rw [List.drop_of_length_le (by omega), if_neg (by simp)]
  refine Ev.step (fun k => by simp only [pack_Check.l0]; rw [if_neg (by omega)]) ?_
  simpa using check_l1 texts ht texts.length 0 (by omega)
 |d + 1, i, h => by
  have hi : i < nums.length := by omega
  have e : wrap64 ((i : Int) + 1) = ((i + 1 : Nat) : Int) := by rw [wrap_id (by omega) (by omega)]; omega
  have hr : rd nums (i : Int) = nums[i] := by simp [rd, List.getD_eq_getElem?_getD, hi]
  have ih := check_l0 nums texts hn ht d (i + 1) (by omega)
  rw [List.drop_eq_getElem_cons hi, List.all_cons]
  refine Ev.step (fun k => by simp only [pack_Check.l0]; rw [if_pos (by omega), if_pos (by omega), if_pos (by omega), hr, e, may_eq]) ?_
  cases ho : okNum nums[i] with
  |true => rw [Bool.true_and]; exact Ev.some_bind (Ev.pos rfl ih)
  |false => rw [Bool.false_and, if_pos rfl]; exact Ev.some_bind (Ev.neg (by simp) (Ev.now _))
theorem check_ev (nums : List Int) (texts : List ByteArray) : Ev (fun k => pack_Check.f k nums texts) (chk nums texts) := by
 unfold pack_Check.f chk
 by_cases h1 : 1024 < nums.length
 ·rw [if_pos (Or.inl h1)]
  exact Ev.pos (by omega) (Ev.step (fun k => by simp only [pack_Check.j0, if_true]) (Ev.now _))
 refine Ev.neg (by omega) ?_
 by_cases h2 : 1024 < texts.length
 ·rw [if_pos (Or.inr h2), decide_eq_true (by omega)]
  exact Ev.step (fun k => by simp only [pack_Check.j0, if_true]) (Ev.now _)
 rw [if_neg (by omega), decide_eq_false (by omega)]
 refine Ev.step (fun k => by simp only [pack_Check.j0]; rw [if_neg (by simp)]) ?_
 simpa using check_l0 nums texts (by omega) (by omega) nums.length 0 (by omega)
/-- Encode. -/
theorem enc_l1 (texts : List ByteArray) (ht : texts.length ≤ 1024) (hs : ∀ s ∈ texts, s.size ≤ 4096) : ∀ (d i : Nat) (xs : List Int), i + d = texts.length → xs.length + 4105 * d ≤ 100000000 →
  Ev (fun k => pack_Encode.l1 k xs texts (texts.length : Int) (i : Int)) (strOfNums (xs ++ tails (texts.drop i)), 0)
 |0, i, xs, h, hx => by
  rw [List.drop_of_length_le (by omega)]
  refine Ev.step (fun k => by simp only [pack_Encode.l1]; rw [if_neg (by omega)]) ?_
  rw [show tails [] = [] from rfl, List.append_nil]
  exact Ev.now _
 |d + 1, i, xs, h, hx => by
  have hi : i < texts.length := by omega
  have e : wrap64 ((i : Int) + 1) = ((i + 1 : Nat) : Int) := by rw [wrap_id (by omega) (by omega)]; omega
  have hr : rdOf ByteArray.empty texts (i : Int) = texts[i] := by simp [rdOf, List.getD_eq_getElem?_getD, hi]
  have hz := hs _ (List.getElem_mem hi)
  have hp : (plain texts[i].size).length ≤ 9 := plain_len9 (by omega)
  have ih := enc_l1 texts ht hs d (i + 1) (xs ++ plain texts[i].size ++ bytesOf texts[i]) (by omega) (by simp only [List.length_append, bytesOf_length]; omega)
  rw [List.drop_eq_getElem_cons hi]
  have et : tails (texts[i] :: texts.drop (i + 1)) = plain texts[i].size ++ bytesOf texts[i] ++ tails (texts.drop (i + 1)) := rfl
  rw [et]
  refine Ev.step (fun k => by simp only [pack_Encode.l1]; rw [if_pos (by omega), if_pos (by omega), if_pos (by omega), hr, e]) ?_
  refine Ev.bind (put_int_ev texts[i].size xs (by omega) (by omega)) (Ev.pos (by rw [List.length_append]; omega) ?_)
  simpa using ih
theorem enc_l0 (nums : List Int) (texts : List ByteArray) (hn : nums.length ≤ 1024) (ht : texts.length ≤ 1024) (hm : ∀ n ∈ nums, -4611686018427387904 ≤ n ∧ n ≤ 4611686018427387903) (hs : ∀ s ∈ texts, s.size ≤ 4096) : ∀ (d i : Nat) (xs : List Int), i + d = nums.length → xs.length + 9 * d ≤ 10000000 →
  Ev (fun k => pack_Encode.l0 k xs nums (nums.length : Int) (i : Int) nums texts) (strOfNums (xs ++ body (nums.drop i) ++ plain texts.length ++ tails texts), 0)
 |0, i, xs, h, hx => by
  rw [List.drop_of_length_le (by omega)]
  have hp : (plain texts.length).length ≤ 9 := plain_len9 (by omega)
  refine Ev.step (fun k => by simp only [pack_Encode.l0]; rw [if_neg (by omega)]) ?_
  refine Ev.bind (put_int_ev texts.length xs (by omega) (by omega)) ?_
  have := enc_l1 texts ht hs texts.length 0 (xs ++ plain texts.length) (by omega) (by rw [List.length_append]; omega)
  simpa [body] using this
 |d + 1, i, xs, h, hx => by
  have hi : i < nums.length := by omega
  have e : wrap64 ((i : Int) + 1) = ((i + 1 : Nat) : Int) := by rw [wrap_id (by omega) (by omega)]; omega
  have hr : rd nums (i : Int) = nums[i] := by simp [rd, List.getD_eq_getElem?_getD, hi]
  have hz := hm _ (List.getElem_mem hi)
  have hp : (signed nums[i]).length ≤ 9 := plain_len9 (zig_lt hz.1 hz.2)
  have ih := enc_l0 nums texts hn ht hm hs d (i + 1) (xs ++ signed nums[i]) (by omega) (by rw [List.length_append]; omega)
  rw [List.drop_eq_getElem_cons hi]
  have et : body (nums[i] :: nums.drop (i + 1)) = signed nums[i] ++ body (nums.drop (i + 1)) := rfl
  rw [et]
  refine Ev.step (fun k => by simp only [pack_Encode.l0]; rw [if_pos (by omega), if_pos (by omega), if_pos (by omega), hr, e]) ?_
  refine Ev.bind (signed_ev nums[i] xs hz.1 hz.2 (by omega)) ?_
  simpa using ih
/-- What Encode answers. -/
def encB (nums : List Int) (texts : List ByteArray) : ByteArray × Int := if chk nums texts = 0 then (strOfNums (enc nums texts), 0) else (⟨#[]⟩, chk nums texts)
theorem encode_ev (nums : List Int) (texts : List ByteArray) : Ev (fun k => pack_Encode.f k nums texts) (encB nums texts) := by
 unfold pack_Encode.f encB
 refine Ev.bind (check_ev nums texts) ?_
 by_cases h : chk nums texts = 0
 ·obtain ⟨h1, h2, h3, h4⟩ := chk_ok h
  rw [if_pos h]
  have hp : (plain nums.length).length ≤ 9 := plain_len9 (by omega)
  refine Ev.pos h (Ev.bind (put_int_ev nums.length [] (by omega) (by simp)) ?_)
  have := enc_l0 nums texts h1 h2 h3 h4 nums.length 0 ([] ++ plain nums.length) (by omega) (by simp; omega)
  simpa [enc] using this
 ·rw [if_neg h]
  exact Ev.neg h (Ev.now _)
end Go.Proofs.Ytbfjbcaabijpfaa.PackFns

namespace Go.Proofs.Ytbfjbcaabijpfaa.RecSpec
open Go.RowKit Go.Proofs.Ytbfjbcaabijpfaa.Base Go.Proofs.Ytbfjbcaabijpfaa.PackMath Go.Proofs.Ytbfjbcaabijpfaa.PackFns Go.Proofs.Ytbfjbcaabijpfaa.LetSpec Go.Proofs.Ytbfjbcaabijpfaa.Al Go.Proofs.YtbfjbcaabijpfaaW.PrintWords
set_option linter.unusedVariables false
set_option linter.unusedSimpArgs false
theorem key_size {s : ByteArray} (h : keyB s = true) : s.size ≤ 32 := by
 unfold keyB at h
 exact (of_decide_eq_true h).2
theorem risFrom_all : ∀ (l : List ByteArray) (p : Option ByteArray), risFrom p l = true → ∀ s ∈ l, keyB s = true
 |[], _, _, _, h => by cases h
 |x :: l, p, h, s, hs => by
  have h1 : keyB x = true ∧ risFrom (some x) l = true := by
   cases p with
   |none => simpa [risFrom] using h
   |some q =>
    have h2 : (keyB x && (Op.bytesLess q.toList x.toList && risFrom (some x) l)) = true := h
    simp only [Bool.and_eq_true] at h2
    exact ⟨h2.1, h2.2.2⟩
  rcases List.mem_cons.1 hs with rfl | hs
  ·exact h1.1
  ·exact risFrom_all l (some x) h1.2 s hs
theorem ris_all {l : List ByteArray} (h : risB l = true) : ∀ s ∈ l, s.size ≤ 32 := fun s hs => key_size (risFrom_all l none h s hs)
theorem wri_all {l : List S50} (h : wriB l = true) : l.length ≤ 16 ∧ ∀ x ∈ l, x.f0.size ≤ 32 ∧ x.f1.size ≤ 2052 := by
 unfold wriB at h
 simp only [Bool.and_eq_true, decide_eq_true_eq, List.all_eq_true] at h
 obtain ⟨h1, h2, h3⟩ := h
 refine ⟨h2, fun x hx => ⟨ris_all h3 _ (List.mem_map.2 ⟨x, hx, rfl⟩), ?_⟩⟩
 have := h1 x hx
 simp only [oneW, Bool.and_eq_true, decide_eq_true_eq] at this
 exact this.1
theorem empty_size {s : ByteArray} (h : s.toList = []) : s.size = 0 := (empty_iff s).1 h
section
variable (a0 a1 a2 a3 : Int) (a4 a5 : ByteArray) (a6 : Bool) (l7 : List ByteArray) (l8 : List S50)
structure Bounds : Prop where
 b0 : 1 ≤ a0 ∧ a0 ≤ 7
 bh : headP a1 a2 a3
 b4 : a4.size ≤ 32
 b5 : a5.size ≤ 2052
 b7 : l7.length ≤ 16 ∧ ∀ s ∈ l7, s.size ≤ 32
 b8 : l8.length ≤ 16 ∧ ∀ x ∈ l8, x.f0.size ≤ 32 ∧ x.f1.size ≤ 2052
theorem ok_bounds (h : okR a0 a1 a2 a3 a4 a5 a6 l7 l8) : Bounds a0 a1 a2 a3 a4 a5 l7 l8 := by
 obtain ⟨hh, h⟩ := h
 have nil7 : l7.length = 0 → l7.length ≤ 16 ∧ ∀ s ∈ l7, s.size ≤ 32 := fun h => by obtain rfl := List.eq_nil_of_length_eq_zero h; exact ⟨by simp, fun s hs => by cases hs⟩
 have nil8 : l8.length = 0 → l8.length ≤ 16 ∧ ∀ x ∈ l8, x.f0.size ≤ 32 ∧ x.f1.size ≤ 2052 := fun h => by obtain rfl := List.eq_nil_of_length_eq_zero h; exact ⟨by simp, fun s hs => by cases hs⟩
 have mk : (1 ≤ a0 ∧ a0 ≤ 7) → bareT a4 a5 a6 → (l7.length = 0 ∧ l8.length = 0) → Bounds a0 a1 a2 a3 a4 a5 l7 l8 := fun h0 ht hl => ⟨h0, hh, by rw [empty_size ht.1]; omega, by rw [empty_size ht.2.1]; omega, nil7 hl.1, nil8 hl.2⟩
 unfold okK at h
 by_cases n1 : a0 = 1
 ·rw [if_pos n1] at h
  obtain ⟨⟨h1, h2, h3⟩, _, ht⟩ := h
  exact ⟨by omega, hh, by rw [empty_size ht.1]; omega, by rw [empty_size ht.2.1]; omega, ⟨h1, ris_all h2⟩, wri_all h3⟩
 rw [if_neg n1] at h
 by_cases n2 : a0 = 2
 ·rw [if_pos n2] at h; exact mk (by omega) h.2.2.2 h.1
 rw [if_neg n2] at h
 by_cases n5 : a0 = 5
 ·rw [if_pos n5] at h; exact mk (by omega) h.2.2.2.2 h.1
 rw [if_neg n5] at h
 by_cases n6 : a0 = 6
 ·rw [if_pos n6] at h; exact mk (by omega) h.2.2.2.2 h.1
 rw [if_neg n6] at h
 by_cases n3 : a0 = 3
 ·rw [if_pos n3] at h
  obtain ⟨hl, _, hk, hs, _⟩ := h
  exact ⟨by omega, hh, key_size hk, hs, nil7 hl.1, nil8 hl.2⟩
 rw [if_neg n3] at h
 by_cases n4 : a0 = 4
 ·rw [if_pos n4] at h; exact mk (by omega) h.2.2.2 h.1
 rw [if_neg n4] at h
 by_cases n7 : a0 = 7
 ·rw [if_pos n7] at h; exact mk (by omega) h.2.2.2.2 h.1
 rw [if_neg n7] at h
 exact h.elim
def recN : List Int := [a0, a1, a2, a3, oneI a6, (l7.length : Int)] ++ flagsOf l8
def recT : List ByteArray := [a4, a5] ++ l7 ++ pairsOf l8
theorem flags_len (l : List S50) : (flagsOf l).length = l.length := by simp [flagsOf]
theorem one_range (b : Bool) : 0 ≤ oneI b ∧ oneI b ≤ 1 := by cases b <;> decide
theorem rec_chk (h : okR a0 a1 a2 a3 a4 a5 a6 l7 l8) : chk (recN a0 a1 a2 a3 a6 l7 l8) (recT a4 a5 l7 l8) = 0 := by
 obtain ⟨b0, ⟨p1, p2, p3, p4, p5, p6⟩, b4, b5, ⟨b7, c7⟩, ⟨b8, c8⟩⟩ := ok_bounds _ _ _ _ _ _ _ _ _ h
 refine chk_of ?_ ?_ ?_ ?_
 ·simp only [recN, List.length_append, flags_len, List.length_cons, List.length_nil]; omega
 ·simp only [recT, List.length_append, pairs_len, List.length_cons, List.length_nil]; omega
 ·intro n hn
  simp only [recN, List.mem_append, List.mem_cons, List.not_mem_nil, or_false, flagsOf, List.mem_map] at hn
  rcases hn with (rfl | rfl | rfl | rfl | rfl | rfl) | ⟨x, _, rfl⟩
  ·omega
  ·omega
  ·omega
  ·omega
  ·have := one_range a6; omega
  ·omega
  ·have := one_range x.f2; omega
 ·intro s hs
  simp only [recT, List.mem_append, List.mem_cons, List.not_mem_nil, or_false, pairsOf, List.mem_flatten, List.mem_map] at hs
  rcases hs with ((rfl | rfl) | hs) | ⟨l, ⟨x, hx, rfl⟩, hs⟩
  ·omega
  ·omega
  ·have := c7 s hs; omega
  ·have h1 := c8 x hx
   simp only [List.mem_cons, List.not_mem_nil, or_false] at hs
   rcases hs with rfl | rfl <;> omega
/-- The bytes and the error of a record. -/
def encR : ByteArray × Int := if okR a0 a1 a2 a3 a4 a5 a6 l7 l8 then (strOfNums (enc (recN a0 a1 a2 a3 a6 l7 l8) (recT a4 a5 l7 l8)), 0) else (⟨#[]⟩, 80)
variable (h7 : l7.length ≤ 8796093022000) (h8 : l8.length ≤ 8796093022000)
include h7 h8 in
theorem encodeR_ev : Ev (fun k => record_Encode.f k a0 a1 a2 a3 a4 a5 a6 l7 l8) (encR a0 a1 a2 a3 a4 a5 a6 l7 l8) := by
 unfold record_Encode.f encR
 rw [rcheck_eq _ _ _ _ _ _ _ _ _ h7 h8]
 refine Ev.some_bind ?_
 by_cases h : okR a0 a1 a2 a3 a4 a5 a6 l7 l8
 ·rw [if_pos h, if_pos h]
  have hb := ok_bounds _ _ _ _ _ _ _ _ _ h
  have he := encode_ev (recN a0 a1 a2 a3 a6 l7 l8) (recT a4 a5 l7 l8)
  unfold encB at he
  rw [if_pos (rec_chk _ _ _ _ _ _ _ _ _ h)] at he
  exact Ev.pos rfl (Ev.pos ⟨by have := hb.b7.1; omega, by have := hb.b8.1; omega⟩ he)
 ·rw [if_neg h, if_neg h]
  exact Ev.neg (by decide) (Ev.now _)
end
theorem works_encR : encR 2 5 9 0 (⟨#[]⟩ : ByteArray) (⟨#[]⟩ : ByteArray) false [] [] = (⟨#[6, 4, 10, 18, 0, 0, 0, 2, 0, 0]⟩, 0) := by
 have h : okR 2 5 9 0 (⟨#[]⟩ : ByteArray) (⟨#[]⟩ : ByteArray) false [] [] := ⟨by unfold headP; omega, by unfold okK; rw [if_neg (by omega), if_pos rfl]; exact ⟨⟨rfl, rfl⟩, by omega, rfl, nil_toList, nil_toList, rfl⟩⟩
 have e2 : signed 2 = [4] := by unfold signed; rw [show zig 2 = 4 from by decide, plain_small (by omega)]; rfl
 have e5 : signed 5 = [10] := by unfold signed; rw [show zig 5 = 10 from by decide, plain_small (by omega)]; rfl
 have e9 : signed 9 = [18] := by unfold signed; rw [show zig 9 = 18 from by decide, plain_small (by omega)]; rfl
 have e0 : signed 0 = [0] := by unfold signed; rw [show zig 0 = 0 from by decide, plain_small (by omega)]; rfl
 have e : enc (recN 2 5 9 0 false [] []) (recT (⟨#[]⟩ : ByteArray) (⟨#[]⟩ : ByteArray) [] []) = [6, 4, 10, 18, 0, 0, 0, 2, 0, 0] := by
  have en : recN 2 5 9 0 false [] [] = [2, 5, 9, 0, 0, 0] := rfl
  have et : recT (⟨#[]⟩ : ByteArray) (⟨#[]⟩ : ByteArray) [] [] = [(⟨#[]⟩ : ByteArray), (⟨#[]⟩ : ByteArray)] := rfl
  rw [en, et]
  simp only [enc, body, tails, List.map_cons, List.map_nil, e2, e5, e9, e0]
  rw [plain_small (by decide), plain_small (by decide), plain_small (by decide)]
  rfl
 unfold encR
 rw [if_pos h, e]
 rfl
theorem worksR_ev : Ev (fun k => corncriblaw08_works.f k) true := by
 have h := encodeR_ev 2 5 9 0 (⟨#[]⟩ : ByteArray) (⟨#[]⟩ : ByteArray) false [] [] (by simp) (by simp)
 rw [works_encR] at h
 unfold corncriblaw08_works.f
 refine Ev.bind h (Ev.pos rfl ?_)
 rw [toList_eq]
 exact Ev.now _
end Go.Proofs.Ytbfjbcaabijpfaa.RecSpec

namespace Go.Proofs.Ytbfjbcaabijpfaa.RecSpec
open Go.RowKit Go.Proofs.Ytbfjbcaabijpfaa.Base Go.Proofs.Ytbfjbcaabijpfaa.LetSpec Go.Proofs.Ytbfjbcaabijpfaa.PackMath Go.Proofs.Ytbfjbcaabijpfaa.PackDec Go.Proofs.Ytbfjbcaabijpfaa.PackFns Go.Proofs.Ytbfjbcaabijpfaa.Al Go.Proofs.YtbfjbcaabijpfaaW.PrintWords
set_option linter.unusedVariables false
set_option linter.unusedSimpArgs false
open Go.Proofs.Ytbfjbcaabijpfaa.Al.RD (RLet noLet wsOf wOf ws_len)
/-- The keys, the writes. -/
def keysOf (ns : List Int) (ts : List ByteArray) : List ByteArray := (ts.take (2 + rd ns 5).toNat).drop 2
def wrsOf (ns : List Int) (ts : List ByteArray) : List S50 := wsOf (ns.drop 6) (ts.drop (2 + rd ns 5).toNat) (ns.length - 6)
def encD (ns : List Int) (ts : List ByteArray) : ByteArray × Int := encR (rd ns 0) (rd ns 1) (rd ns 2) (rd ns 3) (rdOf ByteArray.empty ts 0) (rdOf ByteArray.empty ts 1) (rd ns 4 == 1) (keysOf ns ts) (wrsOf ns ts)
def fitD (ns : List Int) (ts : List ByteArray) : Prop := 0 ≤ rd ns 5 ∧ rd ns 5 ≤ (ts.length : Int) - 2 ∧ (ts.length : Int) = 2 + rd ns 5 + 2 * ((ns.length - 6 : Nat) : Int)
instance (ns : List Int) (ts : List ByteArray) : Decidable (fitD ns ts) := by unfold fitD; infer_instance
def letV (ns : List Int) (ts : List ByteArray) : RLet := (rd ns 0, rd ns 1, rd ns 2, rd ns 3, rdOf ByteArray.empty ts 0, rdOf ByteArray.empty ts 1, (rd ns 4 == 1), keysOf ns ts, wrsOf ns ts, 0)
def ldV (s : ByteArray) : RLet :=
 if (dec s).2.2.2 = 0 ∧ 6 ≤ (dec s).1.length ∧ 2 ≤ (dec s).2.1.length then
  (if fitD (dec s).1 (dec s).2.1 then (if (encD (dec s).1 (dec s).2.1).2 = 0 ∧ (encD (dec s).1 (dec s).2.1).1 = s then letV (dec s).1 (dec s).2.1 else noLet) else noLet)
 else noLet
theorem keys_len (ns : List Int) (ts : List ByteArray) : (keysOf ns ts).length ≤ ts.length := by unfold keysOf; rw [List.length_drop, List.length_take]; omega
theorem wrs_len (ns : List Int) (ts : List ByteArray) : (wrsOf ns ts).length = ns.length - 6 := ws_len _ _ _
theorem ldec_ev (s : ByteArray) (hs : s.size ≤ 140737488355328) : Ev (fun k => record_Decode.f k s) (ldV s) := by
 obtain ⟨d1, d2⟩ := DecLen.dec_len s
 unfold record_Decode.f RD.decF ldV
 rw [show pack_Decode.f s = some ((dec s).1, (dec s).2.1, ((dec s).2.2.1 : Int), (dec s).2.2.2) from if_pos hs]
 refine Ev.some_bind ?_
 generalize (dec s).1 = ns at *
 generalize (dec s).2.1 = ts at *
 by_cases h : (dec s).2.2.2 = 0 ∧ 6 ≤ ns.length ∧ 2 ≤ ts.length
 ·rw [if_pos h]
  refine Ev.pos h ?_
  unfold RD.letOf
  by_cases hf : fitD ns ts
  ·rw [if_pos hf]
   refine Ev.pos hf ?_
   have hk := keys_len ns ts
   have hw := wrs_len ns ts
   refine Ev.bind (encodeR_ev (rd ns 0) (rd ns 1) (rd ns 2) (rd ns 3) (rdOf ByteArray.empty ts 0) (rdOf ByteArray.empty ts 1) (rd ns 4 == 1) (keysOf ns ts) (wrsOf ns ts) (by omega) (by omega)) ?_
   by_cases hx : (encD ns ts).2 = 0 ∧ (encD ns ts).1 = s
   ·rw [if_pos hx]
    exact Ev.pos hx (Ev.now _)
   ·rw [if_neg hx]
    exact Ev.neg hx (Ev.now _)
  ·rw [if_neg hf]
   exact Ev.neg hf (Ev.now _)
 ·rw [if_neg h]
  exact Ev.neg h (Ev.now _)
/-- What comes back with no fault is the letter of these bytes. -/
theorem ldV_ok {s : ByteArray} (h : (ldV s).2.2.2.2.2.2.2.2.2 = 0) : ∃ ns ts, ldV s = letV ns ts ∧ encD ns ts = (s, 0) ∧ ns.length ≤ 1024 ∧ ts.length ≤ 1024 := by
 obtain ⟨d1, d2⟩ := DecLen.dec_len s
 unfold ldV at h ⊢
 split
 ·rename_i c
  rw [if_pos c] at h
  split
  ·rename_i c2
   rw [if_pos c2] at h
   split
   ·rename_i c3
    exact ⟨_, _, rfl, Prod.ext c3.2 c3.1, d1, d2⟩
   ·rename_i c3
    rw [if_neg c3] at h
    cases h
  ·rename_i c2
   rw [if_neg c2] at h
   cases h
 ·rename_i c
  rw [if_neg c] at h
  cases h
theorem ldV_no {s : ByteArray} (h : (ldV s).2.2.2.2.2.2.2.2.2 ≠ 0) : ldV s = noLet := by
 unfold ldV at h ⊢
 split
 ·rename_i c
  rw [if_pos c] at h
  split
  ·rename_i c2
   rw [if_pos c2] at h
   split
   ·rename_i c3
    rw [if_pos c3] at h
    exact absurd rfl h
   ·rfl
  ·rfl
 ·rfl
theorem strs_bytes (l : List Int) (h : ∀ b ∈ l, 0 ≤ b ∧ b ≤ 255) : bytesOf (strOfNums l) = l := by
 have : (strOfNums l).data.toList = l.map fun n => UInt8.ofNat n.toNat := B_nums l
 unfold bytesOf
 rw [this, List.map_map]
 conv => rhs; rw [← List.map_id l]
 refine List.map_congr_left fun b hb => ?_
 obtain ⟨h1, h2⟩ := h b hb
 simp only [Function.comp, id]
 rw [UInt8.toNat_ofNat']
 omega
theorem enc_rng (ns : List Int) (ts : List ByteArray) : ∀ b ∈ enc ns ts, 0 ≤ b ∧ b ≤ 255 := by
 intro b hb
 simp only [enc, List.mem_append] at hb
 rcases hb with ((hb | hb) | hb) | hb
 ·exact plain_range _ b hb
 ·simp only [body, List.mem_flatten, List.mem_map] at hb
  obtain ⟨l, ⟨n, _, rfl⟩, hb⟩ := hb
  exact plain_range _ b hb
 ·exact plain_range _ b hb
 ·simp only [tails, List.mem_flatten, List.mem_map] at hb
  obtain ⟨l, ⟨t, _, rfl⟩, hb⟩ := hb
  rcases List.mem_append.1 hb with hb | hb
  ·exact plain_range _ b hb
  ·have := rest_range t 0 b (by rw [rest_zero]; exact hb)
   exact this
theorem flat_get {l : List S50} : ∀ {j : Nat} (hj : j < l.length), (pairsOf l)[2 * j]? = some l[j].f0 ∧ (pairsOf l)[2 * j + 1]? = some l[j].f1 := by
 induction l with
 |nil => intro j hj; simp at hj
 |cons x l ih =>
  intro j hj
  cases j with
  |zero => exact ⟨rfl, rfl⟩
  |succ j =>
   have := ih (j := j) (by simpa using hj)
   have e : pairsOf (x :: l) = [x.f0, x.f1] ++ pairsOf l := rfl
   rw [e, List.getElem?_append_right (by simp; omega), List.getElem?_append_right (by simp; omega)]
   simpa [show 2 * (j + 1) - 2 = 2 * j by omega, show 2 * (j + 1) + 1 - 2 = 2 * j + 1 by omega] using this
section
variable (x0 x1 x2 x3 : Int) (x4 x5 : ByteArray) (x6 : Bool) (x7 : List ByteArray) (x8 : List S50)
/-- There and back. -/
theorem ldV_enc (h : okR x0 x1 x2 x3 x4 x5 x6 x7 x8) : ldV (encR x0 x1 x2 x3 x4 x5 x6 x7 x8).1 = (x0, x1, x2, x3, x4, x5, x6, x7, x8, 0) := by
 have hc := rec_chk _ _ _ _ _ _ _ _ _ h
 have he : encR x0 x1 x2 x3 x4 x5 x6 x7 x8 = (strOfNums (enc (recN x0 x1 x2 x3 x6 x7 x8) (recT x4 x5 x7 x8)), 0) := if_pos h
 have hd : dec (strOfNums (enc (recN x0 x1 x2 x3 x6 x7 x8) (recT x4 x5 x7 x8))) = (recN x0 x1 x2 x3 x6 x7 x8, recT x4 x5 x7 x8, 0, 0) := by
  have := dec_enc (s := strOfNums (enc (recN x0 x1 x2 x3 x6 x7 x8) (recT x4 x5 x7 x8))) (r := []) hc (by rw [List.append_nil]; exact strs_bytes _ (fun b hb => enc_rng _ _ b hb))
  rwa [if_pos rfl] at this
 rw [he]
 show ldV (strOfNums _) = _
 unfold ldV
 rw [hd]
 simp only
 have r5 : rd (recN x0 x1 x2 x3 x6 x7 x8) 5 = (x7.length : Int) := rfl
 have r4 : (rd (recN x0 x1 x2 x3 x6 x7 x8) 4 == 1) = x6 := by
  have : rd (recN x0 x1 x2 x3 x6 x7 x8) 4 = oneI x6 := rfl
  rw [this]
  cases x6 <;> rfl
 have nl : (recN x0 x1 x2 x3 x6 x7 x8).length = 6 + x8.length := by unfold recN; rw [List.length_append, flags_len]; rfl
 have tl : (recT x4 x5 x7 x8).length = 2 + x7.length + 2 * x8.length := by
  unfold recT; rw [List.length_append, List.length_append, Al.pairs_len]; rfl
 have hk : keysOf (recN x0 x1 x2 x3 x6 x7 x8) (recT x4 x5 x7 x8) = x7 := by
  unfold keysOf; rw [r5, show (2 + (x7.length : Int)).toNat = x7.length + 2 by omega]
  unfold recT
  rw [List.append_assoc]
  simp
 have hd6 : (recN x0 x1 x2 x3 x6 x7 x8).drop 6 = flagsOf x8 := rfl
 have hdT : (recT x4 x5 x7 x8).drop (2 + (x7.length : Int)).toNat = pairsOf x8 := by
  rw [show (2 + (x7.length : Int)).toNat = x7.length + 2 by omega]
  unfold recT
  rw [List.append_assoc]
  simp
 have hw : wrsOf (recN x0 x1 x2 x3 x6 x7 x8) (recT x4 x5 x7 x8) = x8 := by
  unfold wrsOf
  rw [r5, hd6, hdT, nl, Nat.add_sub_cancel_left]
  apply List.ext_getElem
  ·rw [ws_len]
  ·intro j h1 h2
   obtain ⟨g0, g1⟩ := flat_get (l := x8) h2
   simp only [wsOf, List.getElem_map, List.getElem_range, wOf]
   have e0 : rdOf ByteArray.empty (pairsOf x8) (2 * (j : Int)) = x8[j].f0 := by
    rw [rdOf, show (2 * (j : Int)).toNat = 2 * j by omega, List.getD_eq_getElem?_getD, g0]; rfl
   have e1 : rdOf ByteArray.empty (pairsOf x8) (2 * (j : Int) + 1) = x8[j].f1 := by
    rw [rdOf, show (2 * (j : Int) + 1).toNat = 2 * j + 1 by omega, List.getD_eq_getElem?_getD, g1]; rfl
   have e2 : (rd (flagsOf x8) (j : Int) == 1) = x8[j].f2 := by
    have : rd (flagsOf x8) (j : Int) = if x8[j].f2 = true then 1 else 0 := by
     unfold rd flagsOf
     rw [Int.toNat_natCast, List.getD_eq_getElem?_getD, List.getElem?_map, List.getElem?_eq_getElem h2]; rfl
    rw [this]
    cases x8[j].f2 <;> rfl
   rw [e0, e1, e2]
 have hr0 : rdOf ByteArray.empty (recT x4 x5 x7 x8) 0 = x4 := rfl
 have hr1 : rdOf ByteArray.empty (recT x4 x5 x7 x8) 1 = x5 := rfl
 have henc : encD (recN x0 x1 x2 x3 x6 x7 x8) (recT x4 x5 x7 x8) = encR x0 x1 x2 x3 x4 x5 x6 x7 x8 := by
  unfold encD; rw [hk, hw, hr0, hr1, r4]; rfl
 rw [if_pos ⟨trivial, by omega, by omega⟩, if_pos (show fitD _ _ from ⟨by rw [r5]; omega, by rw [r5, tl]; omega, by rw [r5, tl, nl]; omega⟩), henc, he, if_pos ⟨rfl, rfl⟩]
 unfold letV
 rw [hk, hw, hr0, hr1, r4]
 rfl
end
end Go.Proofs.Ytbfjbcaabijpfaa.RecSpec

namespace Go.Proofs.Ytbfjbcaabijpfaa.LetSpec
open Go.RowKit Go.Proofs.Ytbfjbcaabijpfaa.Base Go.Proofs.Ytbfjbcaabijpfaa.Al Go.Proofs.YtbfjbcaabijpfaaW.PrintWords
theorem sameT_l0 (l : List ByteArray) (hl : l.length ≤ 4611686018427387904) : ∀ (d i : Nat), i + d = l.length → Ev (fun k => corncribbook_SameTexts.l0 k l l (i : Int)) true
 |0, i, h => Ev.step (f := fun _ => some true) (fun k => by simp only [corncribbook_SameTexts.l0]; rw [if_neg (by omega)]) (Ev.now _)
 |d + 1, i, h => by
  have ih := sameT_l0 l hl d (i + 1) (by omega)
  have e : wrap64 ((i : Int) + 1) = ((i + 1 : Nat) : Int) := by rw [wrap_id (by omega) (by omega)]; omega
  refine Ev.step (fun k => ?_) ih
  simp only [corncribbook_SameTexts.l0]
  rw [if_pos (by omega), if_pos (by omega), if_pos (by omega), if_pos trivial, e]
theorem sameT_ev (l : List ByteArray) (hl : l.length ≤ 4611686018427387904) : Ev (fun k => corncribbook_SameTexts.f k l l) true := by
 unfold corncribbook_SameTexts.f
 exact Ev.pos rfl (sameT_l0 l hl l.length 0 (by omega))
end Go.Proofs.Ytbfjbcaabijpfaa.LetSpec

namespace Go.Proofs.Ytbfjbcaabijpfaa.RecSpec
open Go.RowKit Go.Proofs.Ytbfjbcaabijpfaa.LetSpec Go.Proofs.Ytbfjbcaabijpfaa.Base Go.Proofs.Ytbfjbcaabijpfaa.Al Go.Proofs.YtbfjbcaabijpfaaW.PrintWords
theorem sameW_l0 (l : List S50) (hl : l.length ≤ 4611686018427387904) : ∀ (d i : Nat), i + d = l.length → Ev (fun k => corncribbook_SameWrites.l0 k l l (i : Int)) true
 |0, i, h => Ev.step (f := fun _ => some true) (fun k => by simp only [corncribbook_SameWrites.l0]; rw [if_neg (by omega)]) (Ev.now _)
 |d + 1, i, h => by
  have ih := sameW_l0 l hl d (i + 1) (by omega)
  have e : wrap64 ((i : Int) + 1) = ((i + 1 : Nat) : Int) := by rw [wrap_id (by omega) (by omega)]; omega
  refine Ev.step (fun k => ?_) ih
  simp only [corncribbook_SameWrites.l0]
  rw [if_pos (by omega), if_pos (by omega), if_pos (by omega), if_neg (by simp), e]
theorem sameW_ev (l : List S50) (hl : l.length ≤ 4611686018427387904) : Ev (fun k => corncribbook_SameWrites.f k l l) true := by
 unfold corncribbook_SameWrites.f
 exact Ev.pos rfl (sameW_l0 l hl l.length 0 (by omega))
theorem sameR_ev (x0 x1 x2 x3 : Int) (x4 x5 : ByteArray) (x6 : Bool) (x7 : List ByteArray) (x8 : List S50) (h7 : x7.length ≤ 4611686018427387904) (h8 : x8.length ≤ 4611686018427387904) : Ev (fun k => corncribbook_SameRecord.f k x0 x1 x2 x3 x4 x5 x6 x7 x8 x0 x1 x2 x3 x4 x5 x6 x7 x8) true := by
 unfold corncribbook_SameRecord.f
 exact Ev.pos rfl (Ev.pos rfl (Ev.pos rfl (Ev.pos rfl (Ev.pos rfl (Ev.pos rfl (Ev.pos (beq_self_eq_true x6) (Ev.bind (sameT_ev x7 h7) (Ev.pos rfl (Ev.bind (sameW_ev x8 h8) (Ev.now _))))))))))
end Go.Proofs.Ytbfjbcaabijpfaa.RecSpec

namespace Go.Proofs.Ytbfjbcaabijpfaa.Open
open Go.RowKit Go.Proofs.YtbfjbcaabijpfaaW.PrintWords
/-- Whatever reads as data of type t is told by d: V always, L where each string and slice is within the reach, m is within the bulk. -/
structure Opens {α : Type} (P : Program) (t : TypeId) (d : Kd α) (V L : α → Prop) (m : α → Nat) : Prop where
 out : ∀ {H : Type} {enc : TypeId × Value → H} {w : World} {base : Nat} {spare : Nat → Bool} {held : Bool} {fuel : Nat} {cs : List Value} {x : DataW H × List MemPlace}, DataW.trod enc P w base spare held fuel t cs = some x →
  ∃ a : α, d.K w a cs ∧ V a ∧ ((DataW.weights P t x.1).all (· ≤ reachBytes) = true → L a) ∧ m a ≤ Rows.uptoBulk x.1
theorem opens_int {P : Program} {t : TypeId} {k : IntKind} (ht : P.underlying t = some (.int k)) : Opens P t (Kd.int k) (fun n => (Lit.int k n).wf = true) (fun _ => True) (fun _ => 1) where
 out h := by
  obtain ⟨n, rfl, rfl, hw⟩ := DataW.trod_int ht h
  exact ⟨n, rfl, hw, fun _ => trivial, Nat.le_refl _⟩
theorem opens_bool {P : Program} {t : TypeId} (ht : P.underlying t = some .bool) : Opens P t Kd.bool (fun _ => True) (fun _ => True) (fun _ => 1) where
 out h := by
  obtain ⟨n, rfl, rfl⟩ := DataW.trod_bool ht h
  exact ⟨n, rfl, trivial, fun _ => trivial, Nat.le_refl _⟩
theorem opens_string {P : Program} {t : TypeId} (ht : P.underlying t = some .string) : Opens P t Kd.string (fun s => s.size ≤ maxLen) (fun s => s.size ≤ 140737488351232) (fun s => s.size + 1) where
 out h := by
  obtain ⟨s, rfl, rfl, hw⟩ := DataW.trod_string ht h
  refine ⟨s, rfl, hw, fun hx => ?_, ?_⟩
  ·simp only [DataW.weights, List.all_cons, List.all_nil, Bool.and_true, decide_eq_true_eq, data_length] at hx
   exact hx
  ·simp [Rows.uptoBulk]
theorem add_add (a : Addr) (m j : Nat) : (a.add m).add j = a.add (m + j) := by
 unfold Addr.add
 by_cases hm : m = 0 <;> by_cases hj : j = 0 <;> simp [hm, hj, Nat.add_assoc]
theorem mapM_some {β γ : Type} {f : β → Option γ} : ∀ {l : List β} {r : List γ}, l.mapM f = some r → r.length = l.length ∧ ∀ i (h : i < l.length), f l[i] = r[i]?
 |[], r, h => by simp at h; subst h; simp
 |b :: l, r, h => by
  rw [List.mapM_cons] at h
  simp only [Option.bind_eq_bind, Option.bind_eq_some_iff, Option.pure_def, Option.some.injEq] at h
  obtain ⟨c, hc, q, hq, rfl⟩ := h
  obtain ⟨hl, hi⟩ := mapM_some hq
  refine ⟨by simp [hl], fun i h => ?_⟩
  cases i with
  |zero => simpa using hc
  |succ i => simpa using hi i (by simpa using h)
theorem cells_get {w : World} {base : Nat} {a : Addr} {n : Nat} {cs : List Value} (h : w.cells? base a n = some cs) : cs.length = n ∧ ∀ i u, cs[i]? = some u → w.cell? (a.add i) = some u := by
 unfold World.cells? at h
 split at h
 ·obtain ⟨hl, hi⟩ := mapM_some h
  simp at hl
  refine ⟨hl, fun i u hu => ?_⟩
  have hlt : i < cs.length := (List.getElem?_eq_some_iff.1 hu).1
  have := hi i (by simp; omega)
  simpa [hu] using this
 ·cases h
theorem list_of {α : Type} {Q : Nat → α → Prop} : ∀ n, (∀ i, i < n → ∃ a, Q i a) → ∃ l : List α, l.length = n ∧ ∀ i a, l[i]? = some a → Q i a
 |0, _ => ⟨[], rfl, fun i a h => by simp at h⟩
 |n + 1, h => by
  obtain ⟨l, hl, hq⟩ := list_of n (fun i hi => h i (by omega))
  obtain ⟨a, ha⟩ := h n (by omega)
  refine ⟨l ++ [a], by simp [hl], fun i b hb => ?_⟩
  by_cases hi : i < n
  ·rw [List.getElem?_append_left (by omega)] at hb
   exact hq i b hb
  ·have hlt := (List.getElem?_eq_some_iff.1 hb).1
   simp at hlt
   obtain rfl : i = n := by omega
   rw [List.getElem?_append_right (by omega), hl] at hb
   simp at hb
   exact hb ▸ ha
theorem all_append {l r : List Nat} {p : Nat → Bool} : (l ++ r).all p = true ↔ l.all p = true ∧ r.all p = true := by rw [List.all_append, Bool.and_eq_true]
theorem weights_all {H : Type} {P : Program} {e : TypeId} {p : Nat → Bool} : ∀ {ds : List (DataW H)}, (DataW.weightsAll P e ds).all p = true → ∀ d ∈ ds, (DataW.weights P e d).all p = true
 |[], _, d, hd => by simp at hd
 |d0 :: ds, h, d, hd => by
  rw [DataW.weightsAll, all_append] at h
  rcases List.mem_cons.1 hd with rfl | hd
  ·exact h.1
  ·exact weights_all h.2 d hd
theorem bulk_all {H α : Type} {m : α → Nat} : ∀ {l : List α} {ds : List (DataW H)}, l.length = ds.length → (∀ (i : Nat) (a : α) (y : DataW H), l[i]? = some a → ds[i]? = some y → m a ≤ Rows.uptoBulk y) → (l.map m).sum ≤ Rows.uptoBulkAll ds
 |[], [], _, _ => by simp [Rows.uptoBulkAll]
 |a :: l, d :: ds, hl, h => by
  have ih := bulk_all (l := l) (ds := ds) (by simpa using hl) (fun i a y h1 h2 => h (i + 1) a y (by simpa using h1) (by simpa using h2))
  have h0 := h 0 a d rfl rfl
  simp only [List.map_cons, List.sum_cons, Rows.uptoBulkAll]
  omega
 |[], _ :: _, hl, _ => by simp at hl
 |_ :: _, [], hl, _ => by simp at hl
theorem opens_slice {α : Type} {P : Program} {t e : TypeId} {d : Kd α} {V L : α → Prop} {m : α → Nat} (q : Nat) (b : Nat) (ht : P.underlying t = some (.slice e)) (hsz : P.cellsOf e = d.sz) (hb : P.bytesOf e = b) (ho : Opens P e d V L m) :
  Opens P t (Kd.slice q d) (fun l => ∀ a ∈ l, V a) (fun l => l.length * b ≤ 140737488351232 ∧ ∀ a ∈ l, L a) (fun l => (l.map m).sum + 1) where
 out {H enc w base spare held fuel cs x} h := by
  rcases DataW.trod_slice ht h with ⟨rfl, rfl⟩ | ⟨ad, len, cap, elems, rest, n, rfl, rfl, rfl, hbase, hlc, hcm, hlen, hel, hsp, hns⟩
  ·exact ⟨[], ⟨none, 0, rfl, Nat.le_refl _, rfl, by simp, fun h => absurd h (by simp)⟩, by simp, fun _ => by simp, by simp [Rows.uptoBulk]⟩
  obtain ⟨l, hl, hq⟩ := list_of (Q := fun i a => (∃ c, c.length = d.sz ∧ d.K w a c ∧ (∀ j u, c[j]? = some u → w.cell? (ad.add (i * d.sz + j)) = some u)) ∧ V a ∧ (∀ y, elems[i]? = some y → ((DataW.weights P e y.1).all (· ≤ reachBytes) = true → L a) ∧ m a ≤ Rows.uptoBulk y.1)) len (by
   intro i hi
   have hy : elems[i]? = some (elems[i]'(by omega)) := List.getElem?_eq_getElem (by omega)
   have h1 := hel i hi
   rw [hy, Option.bind_eq_some_iff] at h1
   obtain ⟨c, hc, hx⟩ := h1
   obtain ⟨a, hK, hV, hL, hm⟩ := ho.out hx
   obtain ⟨hcl, hcc⟩ := cells_get hc
   rw [hsz] at hcl hcc
   refine ⟨a, ⟨c, hcl, hK, fun j u hu => by rw [← add_add]; exact hcc j u hu⟩, hV, fun y hy' => ?_⟩
   rw [hy] at hy'
   obtain rfl := Option.some.inj hy'
   exact ⟨hL, hm⟩)
  have hmax : len ≤ 9223372036854775807 := by unfold maxLen at hcm; omega
  have mem : ∀ a ∈ l, ∃ i, l[i]? = some a := fun a ha => List.mem_iff_getElem?.1 ha
  refine ⟨l, ⟨some ad, cap, by rw [hl], by omega, rfl, by omega, fun _ => ⟨ad, rfl, fun j p hp => ?_⟩⟩, ?_, ?_, ?_⟩
  ·obtain ⟨⟨c, hcl, hK, hcc⟩, _⟩ := hq j p hp
   exact ⟨c, hcl, hK, hcc⟩
  ·intro a ha
   obtain ⟨i, hi⟩ := mem a ha
   exact (hq i a hi).2.1
  ·intro hw
   simp only [DataW.weights, ht, List.all_cons, Bool.and_eq_true, decide_eq_true_eq, all_append, List.length_map, hb] at hw
   obtain ⟨hw1, hw2, _⟩ := hw
   have hw1' : (elems.length + rest.length) * b ≤ 140737488351232 := hw1
   refine ⟨?_, ?_⟩
   ·rw [hl, ← hlen]
    exact Nat.le_trans (Nat.mul_le_mul_right b (Nat.le_add_right _ _)) hw1'
   ·intro a ha
    obtain ⟨i, hi⟩ := mem a ha
    have hlt : i < elems.length := by have := (List.getElem?_eq_some_iff.1 hi).1; omega
    refine ((hq i a hi).2.2 _ (List.getElem?_eq_getElem hlt)).1 (weights_all hw2 _ ?_)
    exact List.mem_map.2 ⟨_, List.getElem_mem hlt, rfl⟩
  ·have hbk : (l.map m).sum ≤ Rows.uptoBulkAll (elems.map (·.1)) := bulk_all (by rw [hl, List.length_map, hlen]) (fun i a y h1 h2 => by
    rw [List.getElem?_map, Option.map_eq_some_iff] at h2
    obtain ⟨z, hz, rfl⟩ := h2
    exact ((hq i a h1).2.2 z hz).2)
   simp only [Rows.uptoBulk]
   omega
/-- The fields of a struct, one behind the other, from a place on. -/
structure OpensF {α : Type} (P : Program) (off : Nat) (fs : List Field) (d : Kd α) (V L : α → Prop) (m : α → Nat) : Prop where
 out : ∀ {H : Type} {enc : TypeId × Value → H} {w : World} {base : Nat} {spare : Nat → Bool} {held : Bool} {fuel : Nat} {cs : List Value} {xs : List (DataW H × List MemPlace)},
  fs.mapM (fun f => DataW.trod enc P w base spare held fuel f.type ((cs.drop f.offset).take (P.cellsOf f.type))) = some xs → cs.length = off + d.sz →
  ∃ a : α, d.K w a (cs.drop off) ∧ V a ∧ ((DataW.weightsEach P (fs.map (·.type)) (xs.map (·.1))).all (· ≤ reachBytes) = true → L a) ∧ m a ≤ Rows.uptoBulkAll (xs.map (·.1))
theorem opensF_one {α : Type} {P : Program} {off : Nat} {f : Field} {d : Kd α} {V L : α → Prop} {m : α → Nat} (ho : Opens P f.type d V L m) (hoff : f.offset = off) (hsz : P.cellsOf f.type = d.sz) : OpensF P off [f] d V L m where
 out {H enc w base spare held fuel cs xs} h hl := by
  obtain ⟨h1, h2⟩ := mapM_some h
  have e : xs = [xs[0]'(by rw [h1]; simp)] := by
   apply List.ext_getElem
   ·simpa using h1
   ·intro i hi _
    have : i = 0 := by rw [h1] at hi; simpa using hi
    subst this
    rfl
  have h3 := h2 0 (by simp)
  rw [List.getElem?_eq_getElem (by rw [h1]; simp)] at h3
  simp only [List.getElem_cons_zero] at h3
  rw [hoff, hsz, List.take_of_length_le (by rw [List.length_drop]; omega)] at h3
  obtain ⟨a, hK, hV, hL, hm⟩ := ho.out h3
  refine ⟨a, hK, hV, fun hw => hL ?_, ?_⟩
  ·rw [e] at hw
   simpa [DataW.weightsEach] using hw
  ·rw [e]
   simpa [Rows.uptoBulkAll] using hm
theorem opensF_cons {α β : Type} {P : Program} {off : Nat} {f : Field} {fs : List Field} {d : Kd α} {V L : α → Prop} {m : α → Nat} {d' : Kd β} {V' L' : β → Prop} {m' : β → Nat}
  (ho : Opens P f.type d V L m) (hoff : f.offset = off) (hsz : P.cellsOf f.type = d.sz) (hr : OpensF P (off + d.sz) fs d' V' L' m') :
  OpensF P off (f :: fs) (Kd.pair d d') (fun a => V a.1 ∧ V' a.2) (fun a => L a.1 ∧ L' a.2) (fun a => m a.1 + m' a.2) where
 out {H enc w base spare held fuel cs xs} h hl := by
  rw [List.mapM_cons] at h
  simp only [Option.bind_eq_bind, Option.bind_eq_some_iff, Option.pure_def, Option.some.injEq] at h
  obtain ⟨x, hx, xs', hxs, rfl⟩ := h
  rw [hoff, hsz] at hx
  have hl' : cs.length = off + (d.sz + d'.sz) := hl
  obtain ⟨a, hK, hV, hL, hm⟩ := ho.out hx
  obtain ⟨b, hK', hV', hL', hm'⟩ := hr.out hxs (by omega)
  refine ⟨(a, b), ⟨_, _, ?_, hK, hK'⟩, ⟨hV, hV'⟩, fun hw => ?_, ?_⟩
  ·rw [← List.drop_drop, List.take_append_drop]
  ·simp only [List.map_cons, DataW.weightsEach, all_append] at hw
   exact ⟨hL hw.1, hL' hw.2⟩
  ·simp only [List.map_cons, Rows.uptoBulkAll]
   omega
theorem opens_struct {α β : Type} {P : Program} {t : TypeId} {fs : Array Field} {d : Kd α} {V L : α → Prop} {m : α → Nat} (f : β → α) (g : α → β) (hfg : ∀ a, f (g a) = a) (ht : P.underlying t = some (.struct fs)) (hsz : P.cellsOf t = d.sz) (hf : OpensF P 0 fs.toList d V L m) :
  Opens P t (Kd.iso d f) (fun b => V (f b)) (fun b => L (f b)) (fun b => m (f b) + 1) where
 out {H enc w base spare held fuel cs x} h := by
  cases fuel with
  |zero => simp [DataW.trod] at h
  |succ n =>
   unfold DataW.trod at h
   rw [ht] at h
   simp only at h
   split at h
   ·rename_i hl
    rw [Option.map_eq_some_iff] at h
    obtain ⟨xs, hxs, rfl⟩ := h
    obtain ⟨a, hK, hV, hL, hm⟩ := hf.out hxs (by omega)
    refine ⟨g a, ?_, ?_, ?_, ?_⟩
    ·show d.K w (f (g a)) cs
     rw [hfg]
     simpa using hK
    ·show V (f (g a))
     rw [hfg]; exact hV
    ·intro hw
     show L (f (g a))
     rw [hfg]
     simp only [DataW.weights, ht] at hw
     exact hL hw
    ·rw [hfg]
     simp only [Rows.uptoBulk]
     omega
   ·cases h
end Go.Proofs.Ytbfjbcaabijpfaa.Open
