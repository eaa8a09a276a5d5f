/- What the laws stand on, in one text: functions of the program by their contracts, the plain mathematics behind them, and such of the printed words as these use. It began as the kit's print and own texts; put together by a program (trim.py). -/
import Derived.Test.YtbfjbcaabijpfaaPzd

namespace Go.Proofs.Ytbfjbcaabijpfaa.Al
open Go.RowKit Go.Proofs.Ytbfjbcaabijpfaa.Base Go.Proofs.Ytbfjbcaabijpfaa.PackMath Go.Proofs.Ytbfjbcaabijpfaa.PackDec Go.Proofs.YtbfjbcaabijpfaaW.PrintWords Go.Proofs.YtbfjbcaabijpfaaW.PrintLast Go.Proofs.YtbfjbcaabijpfaaW.PrintMore
set_option linter.unusedVariables false
set_option linter.unusedSimpArgs false
def corncribref06_Decode.f (a0 : ByteArray) : Option (List Int × List ByteArray × Int × Int) := if a0.size ≤ 140737488355328 then some ((dec a0).1, (dec a0).2.1, ((dec a0).2.2.1 : Int), (dec a0).2.2.2) else none
/-- A pack under way at block gp, the result's block gq still empty. -/
structure PR (w0 W : World) (gp gq : Nat) (xs : List Int) (ts : List ByteArray) (vN vT : Value) : Prop where
 bp : W.heap[gp]? = some (.cells #[vN, vT] 48 (0, 0))
 bq : W.heap[gq]? = some (.cells #[.slice none 0 0, .slice none 0 0] 48 (0, 0))
 gep : w0.heap.size ≤ gp
 geq : w0.heap.size ≤ gq
 ne : gp ≠ gq
 ns : (Kd.int .i64).R 3 W w0.heap.size (fun _ => True) vN xs
 ts : Kd.string.R 9 W w0.heap.size (fun _ => True) vT ts
 bel : Below w0.heap.size w0 W
section
variable {w0 W : World} {gp gq : Nat} {xs : List Int} {ts : List ByteArray} {vN vT : Value}
theorem PR.below {W1 : World} (h : PR w0 W gp gq xs ts vN vT) (hb : Below W.heap.size W W1) : PR w0 W1 gp gq xs ts vN vT where
 bp := blk_below h.bp hb
 bq := blk_below h.bq hb
 gep := h.gep
 geq := h.geq
 ne := h.ne
 ns := Kd.R_below h.ns hb
 ts := Kd.R_below h.ts hb
 bel := below_step h.bel hb
theorem PR.alloc (h : PR w0 W gp gq xs ts vN vT) (o : Obj) : PR w0 (W.alloc o) gp gq xs ts vN vT := h.below (below_alloc (Below.refl _ _) o)
theorem PR.drewN (h : PR w0 W gp gq xs ts vN vT) (m : Nat) : PR w0 (W.drewN m) gp gq xs ts vN vT := h.below (pw_below_drewN (Below.refl _ _) m)
theorem PR.drew (h : PR w0 W gp gq xs ts vN vT) : PR w0 W.drew gp gq xs ts vN vT := h.below (below_drew (Below.refl _ _))
theorem PR.pushN {v1 : Value} {w1 : World} {ys : List Int} (h : PR w0 W gp gq xs ts vN vT) (ho : (Kd.int .i64).R 3 w1 w0.heap.size (fun _ => True) v1 ys) (hb : Below w0.heap.size w0 w1) (hg : W.grownBy w1 vN.ownBlock) :
  w1.heap[gp]? = some (.cells #[vN, vT] 48 (0, 0)) ∧ PR w0 (w1.setCell ⟨gp, 0, none⟩ v1) gp gq ys ts v1 vT := by
 have b1 := blk_grown h.bp hg (Kd.R_ne h.ns h.bp (by decide))
 have q1 := blk_grown h.bq hg (Kd.R_ne h.ns h.bq (by decide))
 have t1 := Kd.R_over h.ts h.ns (by decide) hg
 exact ⟨b1, by simpa using blk_set b1 0 v1, blk_far q1 (p := ⟨gp, 0, none⟩) (Ne.symm h.ne) v1, h.gep, h.geq, h.ne, Kd.R_set ho b1 (by decide) 0 v1, Kd.R_set t1 b1 (by decide) 0 v1, below_set hb h.gep⟩
theorem PR.pushT {v1 : Value} {w1 : World} {ys : List ByteArray} (h : PR w0 W gp gq xs ts vN vT) (ho : Kd.string.R 9 w1 w0.heap.size (fun _ => True) v1 ys) (hb : Below w0.heap.size w0 w1) (hg : W.grownBy w1 vT.ownBlock) :
  w1.heap[gp]? = some (.cells #[vN, vT] 48 (0, 0)) ∧ PR w0 (w1.setCell ⟨gp, 1, none⟩ v1) gp gq xs ys vN v1 := by
 have b1 := blk_grown h.bp hg (Kd.R_ne h.ts h.bp (by decide))
 have q1 := blk_grown h.bq hg (Kd.R_ne h.ts h.bq (by decide))
 have t1 := Kd.R_over h.ns h.ts (by decide) hg
 exact ⟨b1, by simpa using blk_set b1 1 v1, blk_far q1 (p := ⟨gp, 1, none⟩) (Ne.symm h.ne) v1, h.gep, h.geq, h.ne, Kd.R_set t1 b1 (by decide) 1 v1, Kd.R_set ho b1 (by decide) 1 v1, below_set hb h.gep⟩
end
theorem relT_err {s : ByteArray} {m p : Nat} {e : Int} {xs ys : List ByteArray} (h : RelT s m p e xs) (he : e ≠ 0) : RelT s m p e ys := ⟨h.1, fun hc => absurd hc he, h.2.2⟩
theorem relT_skip (s : ByteArray) (h : (st3 s).2.2 ≠ 0) {p : Nat} {e : Int} (h2 : (st2 s).2 = (p, e)) (he : e ≠ 0) : (st4 s).2 = (p, e) := by
 have e3 : st3 s = (0, p, e) := by unfold st3; rw [h2, if_neg he]
 unfold st4
 rw [e3, if_neg he]
theorem st3_err {s : ByteArray} {p : Nat} {e : Int} (h2 : (st2 s).2 = (p, e)) (he : e ≠ 0) : st3 s = (0, p, e) := by unfold st3; rw [h2, if_neg he]
theorem st3_ok {s : ByteArray} {p : Nat} (h2 : (st2 s).2 = (p, 0)) : cnt s p 1024 = st3 s := by unfold st3; rw [h2, if_pos rfl]
theorem zag_odd {n : Nat} (h : n % 2 = 1) : zag n = -((n : Int) / 2) - 1 := by unfold zag; rw [if_pos h]
theorem zag_even {n : Nat} (h : ¬ n % 2 = 1) : zag n = (n : Int) / 2 := by unfold zag; rw [if_neg h]
set_option maxHeartbeats 8000000 in
set_option maxRecDepth 100000 in
theorem corncribref06_Decode.core (s : ByteArray) (hs : s.size ≤ 140737488355328) (w : World) :
  Calls Try.prog 38 #[.string s] w fun e w' => ∃ v0_ v1_ : Value, e = .returned (.tuple #[.agg #[v0_, v1_], .int .i64 ((dec s).2.2.1 : Int), .int .i64 (dec s).2.2.2]) ∧ Kd.R (Kd.int .i64) 3 w' w.heap.size (fun _ => True) v0_ (dec s).1 ∧ Kd.R Kd.string 9 w' w.heap.size (fun _ => True) v1_ (dec s).2.1 ∧ Below w.heap.size w w' := by
 have hu48 := Try.underlying48
 have hc1 := fun (W : World) => count_calls s 0 1024 0 1024 rfl rfl hs (Nat.zero_le _) W
 have e1 : cnt s 0 1024 = st1 s := rfl
 simp only [e1] at hc1
 have HC1 := Aside0.mk hc1
 clear hc1 e1
 go_enter Try.func38, Try.ntmps38
 go_wp2_with (first | ((with_reducible refine gate_dst (N := 2) rfl ?_); (try (refine gate_guard (by rfl) ?_; dsimp only)); refine box_event ?hg (N := 2) ?hd (cs := #[.slice none 0 0, .slice none 0 0]) (t := 48) ?hr ?_; (case hd => rfl); (case hg => rfl); (case hr => first | (go_simp; done) | (go_simp; rfl)); intro gq hgg gqw hbox hb; have GQ := Aside0.mk (Nat.le_of_eq hgg.symm); have BQ := Aside0.mk hbox; have BA := Aside0.mk hb; clear hgg hbox hb) | ((with_reducible refine gate_dst (N := 5) rfl ?_); (try (refine gate_guard (by rfl) ?_; dsimp only)); refine box_event ?hg (N := 5) ?hd (cs := #[.slice none 0 0, .slice none 0 0]) (t := 48) ?hr ?_; (case hd => rfl); (case hg => rfl); (case hr => first | (go_simp; done) | (go_simp; rfl)); intro gp hgg gpw hbox hb; have HP0 : Aside0 (PR w gpw gp gq [] [] (.slice none 0 0) (.slice none 0 0)) := ⟨⟨hbox, blk_below BQ.out hb, by rw [hgg]; exact BA.out.size, GQ.out, by rw [hgg]; exact Nat.ne_of_gt (blk_lt BQ.out), Kd.R_nil _ _ _ _ _, Kd.R_nil _ _ _ _ _, below_step BA.out hb⟩⟩; clear hgg hbox hb) | (go_at_call 48; refine (HC1.out _).mono ?_; rintro x w' ⟨rfl, nd, rfl⟩; have HP1 := Aside0.mk (HP0.out.drewN nd)))
 have hm1 : (st1 s).1 ≤ 1024 := cnt_most
 have HR1 := Aside0.mk (relN_start s)
 generalize (st1 s).1 = m0 at hm1 HR1 ⊢
 generalize (st1 s).2.1 = p0 at HR1 ⊢
 generalize (st1 s).2.2 = e0 at HR1 ⊢
 clear HC1 HP0 BQ BA
 go_loopw [7, 8, 9] (fun v7 v8 v9 wr => ∃ (m p i : Nat) (e : Int) (xs : List Int) (vN : Value), v7 = .int .i64 p ∧ v8 = .int .i64 e ∧ v9 = .int .i64 i ∧ i + m = m0 ∧ xs.length ≤ i ∧ Aside0 (RelN s m p e xs) ∧ Aside0 (PR w wr gp gq xs [] vN (.slice none 0 0))) (fun _ _ v9 _ => m0 - (intOf v9).toNat)
 case atStart => exact ⟨m0, p0, 0, e0, [], _, rfl, rfl, rfl, by omega, Nat.le_refl _, HR1, HP1⟩
 case round =>
  obtain ⟨m, p, i, e, xs, vN, rfl, rfl, rfl, hm, hxl, HR, HP⟩ := hrel
  clear HR1 HP1
  by_cases hc : 0 < m ∧ e = 0
  ·obtain ⟨h0, rfl⟩ := hc
   obtain ⟨m, rfl⟩ : ∃ k, m = k + 1 := ⟨m - 1, by omega⟩
   have c1 : decide ((i : Int) < (m0 : Int)) = true := decide_eq_true (by omega)
   have c2 : decide (i < m0) = true := decide_eq_true (by omega)
   have hn0 := rdn_lt s p
   by_cases hodd : (rdn s p).1 % 2 = 1
   ·have z := zag_odd hodd
    have HZ := Aside0.mk z
    have t1 : (((rdn s p).1 : Int) % 2 == 1) = true := by simp; omega
    have t2 : (Int.tmod ((rdn s p).1 : Int) 2 == 1) = true := by rw [Int.tmod_eq_emod_of_nonneg (by omega)]; exact t1
    clear z hodd hn0
    go_wp2_with (first | (go_at_call 49; refine (read_calls s p p rfl hs HR.out.1 _).mono ?_; rintro x w' ⟨rfl, nd, rfl⟩; have HP1 := Aside0.mk (HP.out.drewN nd); have hxN : (wr.drewN nd).cell? ⟨gp, 0, none⟩ = some vN := (blk_cell HP1.out.bp 0).trans rfl) | ((with_reducible refine gate_builtin (b := .append) (xs := #[.tmp 45, .tmp 47]) rfl ?_); at_builtin; refine Kd.R_append (Kd.int .i64) (w0 := w) w.heap.size rfl (.tmp 45) (.tmp 47) 46 3 (.int .i64 0) 8 rfl Try.underlying46 info3 rfl (by decide) (by omega) vN xs (wrap64 (wrap64 (-(wrap64 (((rdn s p).1 : Int) / 2))) - 1)) [.int .i64 (wrap64 (wrap64 (-(wrap64 (((rdn s p).1 : Int) / 2))) - 1))] (fun _ => True) (fun _ => False) rfl rfl ?aP (fun _ hk => hk.elim) (fun _ _ => trivial) HP1.out.ns HP1.out.bel HP1.out.bel.size ?aL ?_; (case aP => exact rfl); (case aL => omega); intro v1 w1 ho hb hg hat; obtain ⟨A1, k1, e1⟩ := Kd.R_slice ho; subst e1; obtain ⟨b1, hp2⟩ := HP1.out.pushN ho hb hg; have HP2 := Aside0.mk hp2; have hs0 : w1.cell? ⟨gp, 0, none⟩ = some vN := (blk_cell b1 0).trans rfl; have hf0 := blk_frozen b1 0; clear ho hb hg hat hp2 b1))
    have hz : wrap64 (wrap64 (-(wrap64 (((rdn s p).1 : Int) / 2))) - 1) = zag (rdn s p).1 := by
     have hl := rdn_lt s p
     rw [HZ.out]
     generalize (rdn s p).1 = n at hl
     rw [wrap_id (n := (n : Int) / 2) (by omega) (by omega), wrap_id (n := -((n : Int) / 2)) (by omega) (by omega), wrap_id (by omega) (by omega)]
    have HP3 := HP2.out
    rw [hz] at HP3
    exact ⟨⟨m, (rdn s p).2.1, i + 1, (rdn s p).2.2, xs ++ [zag (rdn s p).1], _, rfl, rfl, rfl, by omega, by simp; omega, ⟨relN_step HR.out⟩, ⟨by simpa using HP3⟩⟩, by simp [intOf]; omega⟩
   ·have z := zag_even hodd
    have HZ := Aside0.mk z
    have t1 : (((rdn s p).1 : Int) % 2 == 1) = false := by simp; omega
    have t2 : (Int.tmod ((rdn s p).1 : Int) 2 == 1) = false := by rw [Int.tmod_eq_emod_of_nonneg (by omega)]; exact t1
    clear z hodd hn0
    go_wp2_with (first | (go_at_call 49; refine (read_calls s p p rfl hs HR.out.1 _).mono ?_; rintro x w' ⟨rfl, nd, rfl⟩; have HP1 := Aside0.mk (HP.out.drewN nd); have hxN : (wr.drewN nd).cell? ⟨gp, 0, none⟩ = some vN := (blk_cell HP1.out.bp 0).trans rfl) | ((with_reducible refine gate_builtin (b := .append) (xs := #[.tmp 45, .tmp 47]) rfl ?_); at_builtin; refine Kd.R_append (Kd.int .i64) (w0 := w) w.heap.size rfl (.tmp 45) (.tmp 47) 46 3 (.int .i64 0) 8 rfl Try.underlying46 info3 rfl (by decide) (by omega) vN xs (wrap64 (((rdn s p).1 : Int) / 2)) [.int .i64 (wrap64 (((rdn s p).1 : Int) / 2))] (fun _ => True) (fun _ => False) rfl rfl ?aP (fun _ hk => hk.elim) (fun _ _ => trivial) HP1.out.ns HP1.out.bel HP1.out.bel.size ?aL ?_; (case aP => exact rfl); (case aL => omega); intro v1 w1 ho hb hg hat; obtain ⟨A1, k1, e1⟩ := Kd.R_slice ho; subst e1; obtain ⟨b1, hp2⟩ := HP1.out.pushN ho hb hg; have HP2 := Aside0.mk hp2; have hs0 : w1.cell? ⟨gp, 0, none⟩ = some vN := (blk_cell b1 0).trans rfl; have hf0 := blk_frozen b1 0; clear ho hb hg hat hp2 b1))
    have hz : wrap64 (((rdn s p).1 : Int) / 2) = zag (rdn s p).1 := by
     have hl := rdn_lt s p
     rw [HZ.out]
     generalize (rdn s p).1 = n at hl
     rw [wrap_id (by omega) (by omega)]
    have HP3 := HP2.out
    rw [hz] at HP3
    exact ⟨⟨m, (rdn s p).2.1, i + 1, (rdn s p).2.2, xs ++ [zag (rdn s p).1], _, rfl, rfl, rfl, by omega, by simp; omega, ⟨relN_step HR.out⟩, ⟨by simpa using HP3⟩⟩, by simp [intOf]; omega⟩
  ·obtain ⟨x1, x2, x3⟩ := relN_exit HR.out (by omega)
   have HX1 := Aside0.mk x1
   have HX2 := Aside0.mk x2
   by_cases he : e = 0
   ·subst he
    obtain rfl : m = 0 := by omega
    have c1 : decide ((i : Int) < (m0 : Int)) = false := decide_eq_false (by omega)
    have c2 : decide (i < m0) = false := decide_eq_false (by omega)
    have hc3 := fun (W : World) => count_calls s p 1024 p 1024 rfl rfl hs x3 W
    simp only [st3_ok x1] at hc3
    have HC3 := Aside0.mk hc3
    have HM3 := Aside0.mk (st3_most s)
    have HR3 := Aside0.mk (relT_start s)
    clear x1 x2 x3 hc3 HR hc
    go_wp2_with (first | (go_at_call 48; refine (HC3.out _).mono ?_; rintro x w' ⟨rfl, nd, rfl⟩; have HP3 := Aside0.mk (HP.out.drewN nd)))
    have hm3 := HM3.out
    clear HM3
    generalize hg1 : (st3 s).1 = m1 at hm3 HR3 ⊢
    generalize hg2 : (st3 s).2.1 = p1 at HR3 ⊢
    generalize hg3 : (st3 s).2.2 = e1 at HR3 ⊢
    clear hg1 hg2 hg3 HC3 HP
    generalize wr.drewN nd = wo at HP3 ⊢
    go_loopw [7, 8, 12] (fun v7 v8 v12 wr => ∃ (m p i : Nat) (e : Int) (ts : List ByteArray) (vT : Value), v7 = .int .i64 p ∧ v8 = .int .i64 e ∧ v12 = .int .i64 i ∧ i + m = m1 ∧ ts.length ≤ i ∧ Aside0 (RelT s m p e ts) ∧ Aside0 (PR w wr gp gq xs ts vN vT)) (fun _ _ v12 _ => m1 - (intOf v12).toNat)
    case atStart => exact ⟨m1, p1, 0, e1, [], _, rfl, rfl, rfl, by omega, Nat.le_refl _, HR3, HP3⟩
    case round =>
     clear HR3 HP3
     obtain ⟨m, p, i, e, ts, vT, rfl, rfl, rfl, hm, htl, HR, HP⟩ := hrel
     by_cases hc : 0 < m ∧ e = 0
     ·obtain ⟨h0, rfl⟩ := hc
      obtain ⟨m, rfl⟩ : ∃ k, m = k + 1 := ⟨m - 1, by omega⟩
      have c1 : decide ((i : Int) < (m1 : Int)) = true := decide_eq_true (by omega)
      have c2 : decide (i < m1) = true := decide_eq_true (by omega)
      have HS := Aside0.mk (relT_step HR.out)
      have htx : txt s p = if (cnt s p 4096).2.2 = 0 then (if s.size - (cnt s p 4096).2.1 < (cnt s p 4096).1 then (⟨#[]⟩, s.size, 50) else (s.extract (cnt s p 4096).2.1 ((cnt s p 4096).2.1 + (cnt s p 4096).1), (cnt s p 4096).2.1 + (cnt s p 4096).1, 0)) else (⟨#[]⟩, (cnt s p 4096).2.1, (cnt s p 4096).2.2) := rfl
      have hc4 := fun (W : World) => count_calls s p 4096 p 4096 rfl rfl hs HR.out.1 W
      have hle := cnt_le (most := 4096) HR.out.1
      have hmo := cnt_most (s := s) (p := p) (most := 4096)
      have HC4 := Aside0.mk hc4
      clear hc4
      generalize (cnt s p 4096).1 = n at htx hmo HC4
      generalize (cnt s p 4096).2.1 = q at htx hle HC4
      generalize (cnt s p 4096).2.2 = e' at htx HC4
      by_cases he' : e' = 0
      ·subst he'
       rw [if_pos rfl] at htx
       by_cases hl : s.size - q < n
       ·rw [if_pos hl] at htx
        rw [htx] at HS
        have c3 : decide ((s.size : Int) - (q : Int) < (n : Int)) = true := decide_eq_true (by omega)
        clear htx hl
        go_wp2_with (first | (go_at_call 48; refine (HC4.out _).mono ?_; rintro x w' ⟨rfl, nd, rfl⟩; have HP4 := Aside0.mk (HP.out.drewN nd)))
        exact ⟨⟨m, s.size, i + 1, 50, ts, _, rfl, rfl, rfl, by omega, by omega, ⟨relT_err HS.out (by decide)⟩, HP4⟩, by simp [intOf]; omega⟩
       ·rw [if_neg hl] at htx
        rw [htx] at HS
        have c3 : decide ((s.size : Int) - (q : Int) < (n : Int)) = false := decide_eq_false (by omega)
        clear htx
        go_wp2_with (first | (go_at_call 48; refine (HC4.out _).mono ?_; rintro x w' ⟨rfl, nd, rfl⟩; have HP4 := Aside0.mk (HP.out.drewN nd)))
        have HPd := Aside0.mk HP4.out.drew
        have hxT : (wr.drewN nd).drew.cell? ⟨gp, 1, none⟩ = some vT := (blk_cell HPd.out.bp 1).trans rfl
        have hxT2 : ∀ o : Obj, ((wr.drewN nd).drew.alloc o).cell? ⟨gp, 1, none⟩ = some vT := fun o => (blk_cell (HPd.out.alloc o).bp 1).trans rfl
        have i1 : (0 : Int) ≤ (q : Int) := by omega
        have i2 : (q : Int) ≤ (q : Int) + (n : Int) := by omega
        have i3 : (q : Int) + (n : Int) ≤ (s.size : Int) := by omega
        have i4 : ((q : Int) + (n : Int)).toNat = q + n := by omega
        have i5 : q + n ≤ s.size := by omega
        have i6 : IntKind.i64.wrap ((q : Int) + (n : Int)) = (q : Int) + (n : Int) := by rw [IntKind.wrap_i64]; omega
        have i7 : wrap64 ((q : Int) + (n : Int)) = (q : Int) + (n : Int) := by rw [wrap_id (by omega) (by omega)]
        generalize hW : (wr.drewN nd).drew = wd at HPd hxT hxT2
        generalize hW2 : wr.drewN nd = we at *
        go_region_law (refine Kd.R_append_step Kd.string (w0 := w) w.heap.size (by rfl) (.tmp 90) (.tmp 97) 22 9 (.string ⟨#[]⟩) 16 (by rfl) Try.underlying22 info9 rfl (by decide) (by omega) vT ts (s.extract q (q + n)) [.string (s.extract q (q + n))] (fun _ => True) (fun _ => False) (by rfl) (by rfl) rfl (fun _ hk => hk.elim) (fun _ _ => trivial) HPd.out.ts HPd.out.bel HPd.out.bel.size (by omega) ?_; intro v1 w1 ho hb hg hat; obtain ⟨A1, k1, e1⟩ := Kd.R_slice ho; subst e1; obtain ⟨b1, hp2⟩ := HPd.out.pushT ho hb hg; have HP2 := Aside0.mk hp2; have hs0 : w1.cell? ⟨gp, 1, none⟩ = some vT := (blk_cell b1 1).trans rfl; have hf0 := blk_frozen b1 1; clear ho hb hg hat hp2 b1)
        all_goals (go_wp2_with fail; (have HP3 := HP2.out; exact ⟨⟨m, q + n, i + 1, 0, ts ++ [s.extract q (q + n)], _, by go_num, rfl, rfl, by omega, by simp; omega, HS, ⟨by simpa using HP3⟩⟩, by simp [intOf]; omega⟩))
      ·rw [if_neg he'] at htx
       rw [htx] at HS
       have he2 : (e' == 0) = false := by simpa using he'
       clear htx
       go_wp2_with (first | (go_at_call 48; refine (HC4.out _).mono ?_; rintro x w' ⟨rfl, nd, rfl⟩; have HP4 := Aside0.mk (HP.out.drewN nd)))
       exact ⟨⟨m, q, i + 1, e', ts, _, rfl, rfl, rfl, by omega, by omega, ⟨relT_err HS.out he'⟩, HP4⟩, by simp [intOf]; omega⟩
     ·obtain ⟨y1, y2, y3⟩ := relT_exit HR.out (by omega)
      have hq0 : wr.cell? ⟨gq, 0, none⟩ = some (.slice none 0 0) := (blk_cell HP.out.bq 0).trans rfl
      have hq1 : wr.cell? ⟨gq, 1, none⟩ = some (.slice none 0 0) := (blk_cell HP.out.bq 1).trans rfl
      have hf0 := blk_frozen HP.out.bq 0
      have hf1 := blk_frozen HP.out.bq 1
      have hne : gp ≠ gq := HP.out.ne
      have hne2 : gq ≠ gp := Ne.symm hne
      by_cases he : e = 0
      ·subst he
       obtain rfl : m = 0 := by omega
       have c1 : decide ((i : Int) < (m1 : Int)) = false := decide_eq_false (by omega)
       have c2 : decide (i < m1) = false := decide_eq_false (by omega)
       by_cases hl : p < s.size
       ·have hd : dec s = ([], [], p, 3) := by rw [dec_st, y1]; simp [hl]
        have HD := Aside0.mk hd
        have c3 : decide ((p : Int) < (s.size : Int)) = true := decide_eq_true (by omega)
        have c4 : decide (p < s.size) = true := decide_eq_true hl
        clear hd hc y1 y2 y3 hl
        go_wp2
        have bk := blk_set (blk_set HP.out.bq 0 (.slice none 0 0)) 1 (.slice none 0 0)
        refine bodyPost_ret (results_ctt rfl _ _ gq 48 #[.slice none 0 0, .slice none 0 0] (0, 0) _ rfl (by simpa using bk) Try.underlying48 rfl (by kernel_rfl)) rfl ?_
        rw [HD.out]
        exact ⟨_, _, rfl, Kd.R_nil _ _ _ _ _, Kd.R_nil _ _ _ _ _, below_set (below_set HP.out.bel HP.out.geq) HP.out.geq⟩
       ·have hd : dec s = (xs, ts, 0, 0) := by
         rw [dec_st, y1]
         simp only [if_true]
         rw [if_neg hl, y2 rfl, HX2.out trivial]
        have HD := Aside0.mk hd
        have c3 : decide ((p : Int) < (s.size : Int)) = false := decide_eq_false (by omega)
        have c4 : decide (p < s.size) = false := decide_eq_false hl
        obtain ⟨AN, kN, eN⟩ := Kd.R_slice HP.out.ns
        obtain ⟨AT, kT, eT⟩ := Kd.R_slice HP.out.ts
        subst eN eT
        have hp0 : wr.cell? ⟨gp, 0, none⟩ = some (.slice AN xs.length kN) := (blk_cell HP.out.bp 0).trans rfl
        have hp1 : wr.cell? ⟨gp, 1, none⟩ = some (.slice AT ts.length kT) := (blk_cell HP.out.bp 1).trans rfl
        clear hd hc y1 y2 y3 hl
        go_wp2
        have bk := blk_set (blk_set HP.out.bq 0 (.slice AN xs.length kN)) 1 (.slice AT ts.length kT)
        refine bodyPost_ret (results_ctt rfl _ _ gq 48 #[.slice AN xs.length kN, .slice AT ts.length kT] (0, 0) _ rfl (by simpa using bk) Try.underlying48 rfl (by kernel_rfl)) rfl ?_
        rw [HD.out]
        exact ⟨_, _, rfl, Kd.R_set (Kd.R_set HP.out.ns HP.out.bq (by decide) 0 _) (blk_set HP.out.bq 0 _) (by decide) 1 _, Kd.R_set (Kd.R_set HP.out.ts HP.out.bq (by decide) 0 _) (blk_set HP.out.bq 0 _) (by decide) 1 _, below_set (below_set HP.out.bel HP.out.geq) HP.out.geq⟩
      ·have hd : dec s = ([], [], p, e) := by rw [dec_st, y1]; simp [he]
       have HD := Aside0.mk hd
       have he1 : (e == 0) = false := by simpa using he
       have he2 : (e != 0) = true := by simpa using he
       clear hd hc y1 y2 y3 he
       go_wp2
       have bk := blk_set (blk_set HP.out.bq 0 (.slice none 0 0)) 1 (.slice none 0 0)
       refine bodyPost_ret (results_ctt rfl _ _ gq 48 #[.slice none 0 0, .slice none 0 0] (0, 0) _ rfl (by simpa using bk) Try.underlying48 rfl (by kernel_rfl)) rfl ?_
       rw [HD.out]
       exact ⟨_, _, rfl, Kd.R_nil _ _ _ _ _, Kd.R_nil _ _ _ _ _, below_set (below_set HP.out.bel HP.out.geq) HP.out.geq⟩
   ·have hd : dec s = ([], [], p, e) := by
     have e3 := st3_err x1 he
     have e4 : (st4 s).2 = (p, e) := relT_skip s (by rw [e3]; exact he) x1 he
     rw [dec_st, e4]; simp [he]
    have HD := Aside0.mk hd
    have he1 : (e == 0) = false := by simpa using he
    have he2 : (e != 0) = true := by simpa using he
    clear hd hc x1 x2 x3 he
    go_wp2_with fail
    obtain ⟨wo, rfl⟩ : ∃ wo : World, wo = wr := ⟨_, rfl⟩
    go_loopw [7, 8, 12] (fun v7 v8 v12 wr => v7 = .int .i64 p ∧ v8 = .int .i64 e ∧ v12 = .int .i64 0 ∧ Aside0 (PR w wr gp gq xs [] vN (.slice none 0 0))) (fun _ _ _ _ => 0)
    case atStart => exact ⟨rfl, rfl, rfl, HP⟩
    case round =>
     clear HP
     obtain ⟨rfl, rfl, rfl, HP⟩ := hrel
     have hq0 : wr.cell? ⟨gq, 0, none⟩ = some (.slice none 0 0) := (blk_cell HP.out.bq 0).trans rfl
     have hq1 : wr.cell? ⟨gq, 1, none⟩ = some (.slice none 0 0) := (blk_cell HP.out.bq 1).trans rfl
     have hf0 := blk_frozen HP.out.bq 0
     have hf1 := blk_frozen HP.out.bq 1
     have hne : gp ≠ gq := HP.out.ne
     have hne2 : gq ≠ gp := Ne.symm hne
     go_wp2
     have bk := blk_set (blk_set HP.out.bq 0 (.slice none 0 0)) 1 (.slice none 0 0)
     refine bodyPost_ret (results_ctt rfl _ _ gq 48 #[.slice none 0 0, .slice none 0 0] (0, 0) _ rfl (by simpa using bk) Try.underlying48 rfl (by kernel_rfl)) rfl ?_
     rw [HD.out]
     exact ⟨_, _, rfl, Kd.R_nil _ _ _ _ _, Kd.R_nil _ _ _ _ _, below_set (below_set HP.out.bel HP.out.geq) HP.out.geq⟩
theorem corncribref06_Decode.calls (a0 : ByteArray) (r1 : List Int) (r2 : List ByteArray) (r3 : Int) (r4 : Int) (w : World) (h : corncribref06_Decode.f a0 = some (r1, r2, r3, r4)) :
  Calls Try.prog 38 #[.string a0] w fun e w' => ∃ v0_ v1_ : Value, e = .returned (.tuple #[.agg #[v0_, v1_], .int .i64 r3, .int .i64 r4]) ∧ Kd.R (Kd.int .i64) 3 w' w.heap.size (fun _ => True) v0_ r1 ∧ Kd.R Kd.string 9 w' w.heap.size (fun _ => True) v1_ r2 ∧ Below w.heap.size w w' := by
 unfold corncribref06_Decode.f at h
 split at h
 case isFalse => cases h
 rename_i hs
 simp only [Option.some.injEq, Prod.mk.injEq] at h
 obtain ⟨rfl, rfl, rfl, rfl⟩ := h
 exact corncribref06_Decode.core a0 hs w
end Go.Proofs.Ytbfjbcaabijpfaa.Al

namespace Go.Proofs.Ytbfjbcaabijpfaa.Al
open Go.RowKit Go.Proofs.YtbfjbcaabijpfaaW.PrintWords Go.Proofs.YtbfjbcaabijpfaaW.PrintLast Go.Proofs.YtbfjbcaabijpfaaW.PrintMore
attribute [local go_sem] max2_int min2_int max_two min_two max_three min_three max_four min_four   -- for this text's walks alone
set_option linter.unusedVariables false
set_option linter.unusedSimpArgs false
def corncribref07_Pairs.l0 : Nat → List Int → List ByteArray → List (S50) → Int → Option ((List (S50)) × Bool)
 |0, _, _, _, _ => none
 |k + 1, x0, x1, x6, x7 => if x7 < (x0.length : Int) then (if 0 ≤ (wrap64 (2 * x7)) then (if (wrap64 (2 * x7)) < (x1.length : Int) then (if 0 ≤ (wrap64 ((wrap64 (2 * x7)) + 1)) then (if (wrap64 ((wrap64 (2 * x7)) + 1)) < (x1.length : Int) then (if 0 ≤ x7 then (if x6.length < 3518437208883 then (corncribref07_Pairs.l0 k x0 x1 (x6 ++ [(⟨rdOf ByteArray.empty x1 (wrap64 (2 * x7)), rdOf ByteArray.empty x1 (wrap64 ((wrap64 (2 * x7)) + 1)), ((rd x0 x7) == 1)⟩ : S50)]) (wrap64 (x7 + 1))) else (none)) else (none)) else (none)) else (none)) else (none)) else (none)) else (some (x6, true))
def corncribref07_Pairs.f (k : Nat) (l0 : List Int) (l1 : List ByteArray) : Option ((List (S50)) × Bool) := if (l1.length : Int) = (wrap64 (2 * (l0.length : Int))) then (corncribref07_Pairs.l0 k l0 l1 ([] : List (S50)) 0) else (some (([] : List (S50)), false))
def corncribref07_Pairs.T7 : Bool × List (List Nat × List Nat) := (true, [([], []), ([], []), ([], []), ([2], [2]), ([1, 3], [1, 3]), ([4], [4]), ([], []), ([], []), ([7], [7]), ([8], [8]), ([6, 9], [6, 9]), ([10], [10]), ([], []), ([], []), ([12, 13], [12, 13]), ([14], [14]), ([15], [15]), ([5, 11, 16], [5, 11, 16]), ([17], [17]), ([0, 18], [0, 18]), ([19, 19, 0, 1, 2, 3, 4, 5, 6, 7, 8, 9, 10, 11, 12, 13, 14, 15, 16, 17, 18, 19], [0, 19])])
def corncribref07_Pairs.B7 : List Nat := [0, 0, 0, 4, 14, 30, 0, 0, 128, 384, 960, 1984, 0, 0, 12288, 28672, 61440, 131070, 262142, 524287, 1048575]
theorem corncribref07_Pairs.tab7 : rtab .any (opsOf Try.f39 7) = corncribref07_Pairs.T7 := by kernel_rfl
theorem corncribref07_Pairs.bits7 : waitsOk corncribref07_Pairs.T7.2 corncribref07_Pairs.B7 = true := by kernel_rfl
set_option maxHeartbeats 8000000 in
set_option maxRecDepth 100000 in
theorem corncribref07_Pairs.calls (k : Nat) (A0 : Option Addr) (c0 : Nat) (l0 : List Int) (A1 : Option Addr) (c1 : Nat) (l1 : List ByteArray) (r1 : List (S50)) (r2 : Bool) (w : World) (hr0 : Kd.C (Kd.int .i64) w A0 l0.length l0) (hc0 : l0.length ≤ c0) (hr1 : Kd.C Kd.string w A1 l1.length l1) (hc1 : l1.length ≤ c1) (h : corncribref07_Pairs.f k l0 l1 = some (r1, r2)) :
  Calls Try.prog 39 #[.slice A0 l0.length c0, .slice A1 l1.length c1] w fun e w' => ∃ v0_ : Value, e = .returned (.tuple #[v0_, .bool r2]) ∧ Kd.R k50 50 w' w.heap.size (fun _ => True) v0_ r1 ∧ Below w.heap.size w w' := by
 have hu50 := Try.underlying50
 have HR0 := Aside0.mk hr0
 have HC0 := Aside0.mk hc0
 clear hr0 hc0
 have HR1 := Aside0.mk hr1
 have HC1 := Aside0.mk hc1
 clear hr1 hc1
 have HB := Aside0.mk (Below.refl w.heap.size w)
 have H : (if (l1.length : Int) = (wrap64 (2 * (l0.length : Int))) then (corncribref07_Pairs.l0 k l0 l1 ([] : List (S50)) 0) else (some (([] : List (S50)), false))) = some (r1, r2) := h
 clear h
 by_cases c3 : (l1.length : Int) = (wrap64 (2 * (l0.length : Int)))
 ·rw [if_pos c3] at H
  have c3b0 : ((l1.length : Int) == (wrap64 (2 * (l0.length : Int)))) = true := beq_iff_eq.mpr c3
  have c3b1 : ((l1.length : Int) != (wrap64 (2 * (l0.length : Int)))) = false := bne_eq_false_iff_eq.mpr c3
  clear c3
  have H' := Aside0.mk H
  clear H
  go_enter Try.func39, Try.ntmps39
  go_wp2
  go_loopg [6, 7] k (fun kq v6 v7 w' => ∃ (x6_1 : List (S50)) (x7_1 : Int), v7 = .int .i64 x7_1 ∧ Aside0 (corncribref07_Pairs.l0 kq l0 l1 x6_1 x7_1 = some (r1, r2)) ∧ Aside0 (kq ≤ k) ∧ Aside0 (Kd.R k50 50 w' w.heap.size (fun _ => True) v6 x6_1) ∧ Aside0 (Below w.heap.size w w'))
  case atStart => exact ⟨(([] : List (S50))), (0), (by first | rfl | (simp; done) | (simp [*]; done)), H', ⟨Nat.le_refl _⟩, ⟨by first | exact Kd.R_nil _ _ _ _ _ | exact Kd.N_nil _ _ _ _ _ | exact Kd.V_nil _ _ _ _ _ | exact Kd.Q_nil _ _ _ _ _ | exact Kd.S_nil _ _ _ _ _⟩, ⟨by repeat (first | (with_reducible first | exact HB.out | apply below_alloc | apply pw_below_drewN | apply below_drew1) | exact HB.out)⟩⟩
  case round =>
   clear H'
   (try clear c1); (try clear p2); (try clear c3); (try clear c3b0); (try clear c3b1)
   obtain ⟨x6_1, x7_1, rfl, HA, HK1, HO_6, HB⟩ := hrel
   cases gk with
   |zero => exact absurd HA.out (by simp [corncribref07_Pairs.l0])
   |succ k1 =>
    have H := HA.out
    clear HA
    simp only [corncribref07_Pairs.l0] at H
    by_cases c4 : x7_1 < (l0.length : Int)
    ·rw [if_pos c4] at H
     have c4b0 : decide (x7_1 < (l0.length : Int)) = true := decide_eq_true c4
     clear c4
     obtain ⟨ji5, hji5⟩ : ∃ j_ : Int, (wrap64 (2 * x7_1)) = j_ := ⟨_, rfl⟩
     replace H : (if 0 ≤ (ji5) then (if (ji5) < (l1.length : Int) then (if 0 ≤ (wrap64 ((ji5) + 1)) then (if (wrap64 ((ji5) + 1)) < (l1.length : Int) then (if 0 ≤ x7_1 then (if x6_1.length < 3518437208883 then (corncribref07_Pairs.l0 k1 l0 l1 (x6_1 ++ [(⟨rdOf ByteArray.empty l1 (ji5), rdOf ByteArray.empty l1 (wrap64 ((ji5) + 1)), ((rd l0 x7_1) == 1)⟩ : S50)]) (wrap64 (x7_1 + 1))) else (none)) else (none)) else (none)) else (none)) else (none)) else (none)) = some (r1, r2) := by first | (rw [hji5] at H; exact H) | (simp only [hji5] at H ⊢; exact H)
     have hji5w : (IntKind.i64.wrap (2 * x7_1)) = ji5 := (i64_w _).trans hji5
     by_cases c6 : 0 ≤ (ji5)
     ·rw [if_pos c6] at H
      have c6b0 : decide (0 ≤ (ji5)) = true := decide_eq_true c6
      clear c6
      by_cases c7 : (ji5) < (l1.length : Int)
      ·rw [if_pos c7] at H
       have c7b0 : decide ((ji5) < (l1.length : Int)) = true := decide_eq_true c7
       clear c7
       obtain ⟨ji8, hji8⟩ : ∃ j_ : Int, (wrap64 ((ji5) + 1)) = j_ := ⟨_, rfl⟩
       replace H : (if 0 ≤ (ji8) then (if (ji8) < (l1.length : Int) then (if 0 ≤ x7_1 then (if x6_1.length < 3518437208883 then (corncribref07_Pairs.l0 k1 l0 l1 (x6_1 ++ [(⟨rdOf ByteArray.empty l1 (ji5), rdOf ByteArray.empty l1 (ji8), ((rd l0 x7_1) == 1)⟩ : S50)]) (wrap64 (x7_1 + 1))) else (none)) else (none)) else (none)) else (none)) = some (r1, r2) := by first | (rw [hji8] at H; exact H) | (simp only [hji8] at H ⊢; exact H)
       have hji8w : (IntKind.i64.wrap ((ji5) + 1)) = ji8 := (i64_w _).trans hji8
       by_cases c9 : 0 ≤ (ji8)
       ·rw [if_pos c9] at H
        have c9b0 : decide (0 ≤ (ji8)) = true := decide_eq_true c9
        clear c9
        by_cases c10 : (ji8) < (l1.length : Int)
        ·rw [if_pos c10] at H
         have c10b0 : decide ((ji8) < (l1.length : Int)) = true := decide_eq_true c10
         clear c10
         by_cases c11 : 0 ≤ x7_1
         ·rw [if_pos c11] at H
          have c11b0 : decide (0 ≤ x7_1) = true := decide_eq_true c11
          clear c11
          by_cases c12 : x6_1.length < 3518437208883
          ·rw [if_pos c12] at H
           have LMc12 := Aside0.mk c12
           clear c12
           obtain ⟨y313, hy313⟩ : ∃ y_ : List (S50), y_ = (x6_1 ++ [(⟨rdOf ByteArray.empty l1 (ji5), rdOf ByteArray.empty l1 (ji8), ((rd l0 x7_1) == 1)⟩ : S50)]) := ⟨_, rfl⟩
           replace H : (corncribref07_Pairs.l0 k1 l0 l1 y313 (wrap64 (x7_1 + 1))) = some (r1, r2) := by first | (rw [hy313]; with_reducible exact H) | (have H2_ := (Option.bind_some _ _).symm.trans H; rw [hy313]; with_reducible exact H2_) | (have H2_ := (Option.bind_some _ _).symm.trans H; with_reducible exact H2_) | with_reducible exact H | (rw [hy313]; exact H) | exact H
           have Ny313 := Aside0.mk hy313
           clear hy313
           have H' := Aside0.mk H
           clear H
           try go_wp2
           have n0_ := Aside0.mk (Kd.R_drew HO_6.out)
           have n1_ := Aside0.mk (below_drew1 HB.out)
           clear HO_6
           clear HB
           have HO_6 := n0_
           have HB := n1_
           clear n0_ n1_
           have p310 : 0 ≤ ((ji5) : Int) := of_decide_eq_true (by first | (with_reducible assumption) | assumption)
           have q310 : (ji5) < (l1.length : Int) := of_decide_eq_true (by first | (with_reducible assumption) | assumption)
           obtain ⟨ad310, e310, hx310_0⟩ := Kd.at_string HR1.out (ji5) p310 q310
           have hw310_0 := hx310_0
           cases e310
           replace hx310_0 := (HB.out.cell (World.block_lt_of_cell? w _ hx310_0)).trans hx310_0
           replace p310 := eq_true p310
           replace q310 := eq_true q310
           have p311 : 0 ≤ ((ji8) : Int) := of_decide_eq_true (by first | (with_reducible assumption) | assumption)
           have q311 : (ji8) < (l1.length : Int) := of_decide_eq_true (by first | (with_reducible assumption) | assumption)
           obtain ⟨ad311, e311, hx311_0⟩ := Kd.at_string HR1.out (ji8) p311 q311
           have hw311_0 := hx311_0
           obtain rfl : ad310 = ad311 := (by injection e311)
           replace hx311_0 := (HB.out.cell (World.block_lt_of_cell? w _ hx311_0)).trans hx311_0
           replace p311 := eq_true p311
           replace q311 := eq_true q311
           have p312 : 0 ≤ (x7_1 : Int) := of_decide_eq_true (by first | (with_reducible assumption) | assumption)
           have q312 : x7_1 < (l0.length : Int) := of_decide_eq_true (by first | (with_reducible assumption) | assumption)
           obtain ⟨ad312, e312, hx312_0⟩ := Kd.at_int HR0.out x7_1 p312 q312
           have hw312_0 := hx312_0
           cases e312
           replace hx312_0 := (HB.out.cell (World.block_lt_of_cell? w _ hx312_0)).trans hx312_0
           replace p312 := eq_true p312
           replace q312 := eq_true q312
           refine start_ (n := 21) (S := fun w' => w'.cell? (ad310.add ((ji5)).toNat) = some (.string (rdOf ByteArray.empty l1 (ji5))) ∧ w'.cell? (ad310.add ((ji8)).toNat) = some (.string (rdOf ByteArray.empty l1 (ji8))) ∧ w'.cell? (ad312.add (x7_1).toNat) = some (.int .i64 (rd l0 x7_1))) (ds := []) #[false, false, false, false, false, false, false, false, false, false, false, false, false, false, false, false, false, false, false, false, false] (by kernel_rfl) rfl rfl ⟨((HB.out.cell (World.block_lt_of_cell? w _ hw310_0)).trans hw310_0), ((HB.out.cell (World.block_lt_of_cell? w _ hw311_0)).trans hw311_0), ((HB.out.cell (World.block_lt_of_cell? w _ hw312_0)).trans hw312_0)⟩ (fun hHeld => ?_); refine with_tabW corncribref07_Pairs.tab7 corncribref07_Pairs.bits7 (fun HT_ HW_ => ?_)
           generalize wr.drew = w13 at HO_6 HB hx310_0 hx311_0 hx312_0 hHeld ⊢
           refine pure_ (i := 0) (N := some 20) (v := ?_) (a' := ?_) #[true, false, false, false, false, false, false, false, false, false, false, false, false, false, false, false, false, false, false, false, false] rfl rfl (any_of HT_.out (by kernel_rfl)) (fun _ _ _ h => h) (Or.inl ⟨by rfl, ?_⟩) ?_ ?_
           rotate_left
           ·intro w'
            go_simp
            with_reducible rfl
           rotate_left
           ·simp only [Act.put, List.setIfInBounds_toArray, List.set_cons_zero, List.set_cons_succ, i64_w, i32_w]
            rfl
           refine pure_ (i := 1) (N := some 21) (v := ?_) (a' := ?_) #[true, true, false, false, false, false, false, false, false, false, false, false, false, false, false, false, false, false, false, false, false] rfl rfl (any_of HT_.out (by kernel_rfl)) (fun _ _ _ h => h) (Or.inl ⟨by rfl, ?_⟩) ?_ ?_
           rotate_left
           ·intro w'
            go_simp
            with_reducible rfl
           rotate_left
           ·simp only [Act.put, List.setIfInBounds_toArray, List.set_cons_zero, List.set_cons_succ, i64_w, i32_w]
            rfl
           refine pure_ (i := 2) (N := some 22) (v := ?_) (a' := ?_) #[true, true, true, false, false, false, false, false, false, false, false, false, false, false, false, false, false, false, false, false, false] rfl rfl (any_of HT_.out (by kernel_rfl)) (fun _ _ _ h => h) (Or.inl ⟨by rfl, ?_⟩) ?_ ?_
           rotate_left
           ·intro w'
            go_simp
            with_reducible rfl
           rotate_left
           ·simp only [Act.put, List.setIfInBounds_toArray, List.set_cons_zero, List.set_cons_succ, i64_w, i32_w]
            rfl
           refine pure_ (i := 3) (N := some 23) (v := ?_) (a' := ?_) #[true, true, true, true, false, false, false, false, false, false, false, false, false, false, false, false, false, false, false, false, false] rfl rfl (any_of HT_.out (by kernel_rfl)) (fun _ _ _ h => h) (Or.inl ⟨by rfl, ?_⟩) ?_ ?_
           rotate_left
           ·intro w'
            go_simp
            with_reducible rfl
           rotate_left
           ·simp only [Act.put, List.setIfInBounds_toArray, List.set_cons_zero, List.set_cons_succ, i64_w, i32_w]
            rfl
           refine pure_ (i := 4) (N := some 24) (v := ?_) (a' := ?_) #[true, true, true, true, true, false, false, false, false, false, false, false, false, false, false, false, false, false, false, false, false] rfl rfl (any_of HT_.out (by kernel_rfl)) (fun _ _ _ h => h) (Or.inl ⟨by rfl, ?_⟩) ?_ ?_
           rotate_left
           ·intro w'
            go_simp
            with_reducible rfl
           rotate_left
           ·simp only [Act.put, List.setIfInBounds_toArray, List.set_cons_zero, List.set_cons_succ, i64_w, i32_w]
            rfl
           refine pure_ (i := 6) (N := some 26) (v := ?_) (a' := ?_) #[true, true, true, true, true, false, true, false, false, false, false, false, false, false, false, false, false, false, false, false, false] rfl rfl (any_of HT_.out (by kernel_rfl)) (fun _ _ _ h => h) (Or.inl ⟨by rfl, ?_⟩) ?_ ?_
           rotate_left
           ·intro w'
            go_simp
            with_reducible rfl
           rotate_left
           ·simp only [Act.put, List.setIfInBounds_toArray, List.set_cons_zero, List.set_cons_succ, i64_w, i32_w]
            rfl
           refine pure_ (i := 7) (N := some 27) (v := ?_) (a' := ?_) #[true, true, true, true, true, false, true, true, false, false, false, false, false, false, false, false, false, false, false, false, false] rfl rfl (any_of HT_.out (by kernel_rfl)) (fun _ _ _ h => h) (Or.inl ⟨by rfl, ?_⟩) ?_ ?_
           rotate_left
           ·intro w'
            go_simp
            with_reducible rfl
           rotate_left
           ·simp only [Act.put, List.setIfInBounds_toArray, List.set_cons_zero, List.set_cons_succ, i64_w, i32_w]
            rfl
           refine pure_ (i := 8) (N := some 28) (v := ?_) (a' := ?_) #[true, true, true, true, true, false, true, true, true, false, false, false, false, false, false, false, false, false, false, false, false] rfl rfl (any_of HT_.out (by kernel_rfl)) (fun _ _ _ h => h) (Or.inl ⟨by rfl, ?_⟩) ?_ ?_
           rotate_left
           ·intro w'
            go_simp
            with_reducible rfl
           rotate_left
           ·simp only [Act.put, List.setIfInBounds_toArray, List.set_cons_zero, List.set_cons_succ, i64_w, i32_w]
            rfl
           refine pure_ (i := 9) (N := some 29) (v := ?_) (a' := ?_) #[true, true, true, true, true, false, true, true, true, true, false, false, false, false, false, false, false, false, false, false, false] rfl rfl (any_of HT_.out (by kernel_rfl)) (fun _ _ _ h => h) (Or.inl ⟨by rfl, ?_⟩) ?_ ?_
           rotate_left
           ·intro w'
            go_simp
            with_reducible rfl
           rotate_left
           ·simp only [Act.put, List.setIfInBounds_toArray, List.set_cons_zero, List.set_cons_succ, i64_w, i32_w]
            rfl
           refine pure_ (i := 10) (N := some 30) (v := ?_) (a' := ?_) #[true, true, true, true, true, false, true, true, true, true, true, false, false, false, false, false, false, false, false, false, false] rfl rfl (any_of HT_.out (by kernel_rfl)) (fun _ _ _ h => h) (Or.inl ⟨by rfl, ?_⟩) ?_ ?_
           rotate_left
           ·intro w'
            go_simp
            with_reducible rfl
           rotate_left
           ·simp only [Act.put, List.setIfInBounds_toArray, List.set_cons_zero, List.set_cons_succ, i64_w, i32_w]
            rfl
           refine pure_ (i := 12) (N := some 32) (v := ?_) (a' := ?_) #[true, true, true, true, true, false, true, true, true, true, true, false, true, false, false, false, false, false, false, false, false] rfl rfl (any_of HT_.out (by kernel_rfl)) (fun _ _ _ h => h) (Or.inl ⟨by rfl, ?_⟩) ?_ ?_
           rotate_left
           ·intro w'
            go_simp
            with_reducible rfl
           rotate_left
           ·simp only [Act.put, List.setIfInBounds_toArray, List.set_cons_zero, List.set_cons_succ, i64_w, i32_w]
            rfl
           refine pure_ (i := 13) (N := some 33) (v := ?_) (a' := ?_) #[true, true, true, true, true, false, true, true, true, true, true, false, true, true, false, false, false, false, false, false, false] rfl rfl (any_of HT_.out (by kernel_rfl)) (fun _ _ _ h => h) (Or.inl ⟨by rfl, ?_⟩) ?_ ?_
           rotate_left
           ·intro w'
            go_simp
            with_reducible rfl
           rotate_left
           ·simp only [Act.put, List.setIfInBounds_toArray, List.set_cons_zero, List.set_cons_succ, i64_w, i32_w]
            rfl
           refine pure_ (i := 14) (N := some 34) (v := ?_) (a' := ?_) #[true, true, true, true, true, false, true, true, true, true, true, false, true, true, true, false, false, false, false, false, false] rfl rfl (any_of HT_.out (by kernel_rfl)) (fun _ _ _ h => h) (Or.inl ⟨by rfl, ?_⟩) ?_ ?_
           rotate_left
           ·intro w'
            go_simp
            with_reducible rfl
           rotate_left
           ·simp only [Act.put, List.setIfInBounds_toArray, List.set_cons_zero, List.set_cons_succ, i64_w, i32_w]
            rfl
           refine take_ (i := 5) (N := some 25) (v := ?_) (a' := ?_) #[true, true, true, true, true, true, true, true, true, true, true, false, true, true, true, false, false, false, false, false, false] rfl rfl (take_ofW HT_.out HW_.out (by kernel_rfl)) (fun _ _ _ h => h) (Or.inl ⟨by rfl, ?_⟩) hHeld ?_ ?_
           rotate_left
           ·rintro w' ⟨s0, s1, s2⟩
            go_simp
            with_reducible rfl
           rotate_left
           ·simp only [Act.put, List.setIfInBounds_toArray, List.set_cons_zero, List.set_cons_succ, i64_w, i32_w]
            rfl
           refine take_ (i := 11) (N := some 31) (v := ?_) (a' := ?_) #[true, true, true, true, true, true, true, true, true, true, true, true, true, true, true, false, false, false, false, false, false] rfl rfl (take_ofW HT_.out HW_.out (by kernel_rfl)) (fun _ _ _ h => h) (Or.inl ⟨by rfl, ?_⟩) hHeld ?_ ?_
           rotate_left
           ·rintro w' ⟨s0, s1, s2⟩
            go_simp
            with_reducible rfl
           rotate_left
           ·simp only [Act.put, List.setIfInBounds_toArray, List.set_cons_zero, List.set_cons_succ, i64_w, i32_w]
            rfl
           refine take_ (i := 15) (N := some 35) (v := ?_) (a' := ?_) #[true, true, true, true, true, true, true, true, true, true, true, true, true, true, true, true, false, false, false, false, false] rfl rfl (take_ofW HT_.out HW_.out (by kernel_rfl)) (fun _ _ _ h => h) (Or.inl ⟨by rfl, ?_⟩) hHeld ?_ ?_
           rotate_left
           ·rintro w' ⟨s0, s1, s2⟩
            go_simp
            with_reducible rfl
           rotate_left
           ·simp only [Act.put, List.setIfInBounds_toArray, List.set_cons_zero, List.set_cons_succ, i64_w, i32_w]
            rfl
           refine pure_ (i := 16) (N := some 36) (v := ?_) (a' := ?_) #[true, true, true, true, true, true, true, true, true, true, true, true, true, true, true, true, true, false, false, false, false] rfl rfl (any_of HT_.out (by kernel_rfl)) (fun _ _ _ h => h) (Or.inl ⟨by rfl, ?_⟩) ?_ ?_
           rotate_left
           ·intro w'
            go_simp
            with_reducible rfl
           rotate_left
           ·simp only [Act.put, List.setIfInBounds_toArray, List.set_cons_zero, List.set_cons_succ, i64_w, i32_w]
            rfl
           refine pure_ (i := 17) (N := some 37) (v := ?_) (a' := ?_) #[true, true, true, true, true, true, true, true, true, true, true, true, true, true, true, true, true, true, false, false, false] rfl rfl (any_of HT_.out (by kernel_rfl)) (fun _ _ _ h => h) (Or.inl ⟨by rfl, ?_⟩) ?_ ?_
           rotate_left
           ·intro w'
            go_simp
            with_reducible rfl
           rotate_left
           ·simp only [Act.put, List.setIfInBounds_toArray, List.set_cons_zero, List.set_cons_succ, i64_w, i32_w]
            rfl
           refine one_ (i := 18) (N := some 38) #[true, true, true, true, true, true, true, true, true, true, true, true, true, true, true, true, true, true, true, false, false] rfl rfl (one_of HT_.out (by kernel_rfl)) (by decide) (fun K hK => ?_)
           refine value_ (w1 := ?_) (v := ?_) (by rfl) rfl ?_ ?_
           rotate_left 2
           ·go_simp
            constructor
            ·rfl
            ·rfl
           refine hK.out _ _ ⟨(World.cell?_alloc_lt _ _ _ (World.block_lt_of_cell? _ _ (((HB.out.cell (World.block_lt_of_cell? w _ hw310_0)).trans hw310_0)))).trans (((HB.out.cell (World.block_lt_of_cell? w _ hw310_0)).trans hw310_0)), (World.cell?_alloc_lt _ _ _ (World.block_lt_of_cell? _ _ (((HB.out.cell (World.block_lt_of_cell? w _ hw311_0)).trans hw311_0)))).trans (((HB.out.cell (World.block_lt_of_cell? w _ hw311_0)).trans hw311_0)), (World.cell?_alloc_lt _ _ _ (World.block_lt_of_cell? _ _ (((HB.out.cell (World.block_lt_of_cell? w _ hw312_0)).trans hw312_0)))).trans (((HB.out.cell (World.block_lt_of_cell? w _ hw312_0)).trans hw312_0))⟩ (fun hHeld => ?_)
           clear hK K
           refine norm_ (a' := ?_) ?_ ?_
           rotate_left
           ·show Act.put _ (some 38) _ = _
            simp only [Act.put, List.setIfInBounds_toArray, List.set_cons_zero, List.set_cons_succ, i64_w, i32_w]
            rfl
           refine one_ (i := 19) (N := some 39) #[true, true, true, true, true, true, true, true, true, true, true, true, true, true, true, true, true, true, true, true, false] rfl rfl (one_of HT_.out (by kernel_rfl)) (by decide) (fun K hK => ?_)
           refine Kd.R_append_step k50 (w0 := w) w.heap.size (by rfl) (.tmp 20) (.tmp 38) 23 50 (.agg #[(.string ⟨#[]⟩), (.string ⟨#[]⟩), (.bool false)]) 40 rfl Try.underlying23 info50 rfl (by decide) (by omega) u6 x6_1 (⟨rdOf ByteArray.empty l1 (ji5), rdOf ByteArray.empty l1 (ji8), ((rd l0 x7_1) == 1)⟩ : S50) [.string (rdOf ByteArray.empty l1 (ji5)), .string (rdOf ByteArray.empty l1 (ji8)), .bool ((rd l0 x7_1) == 1)] (fun _ => True) (fun _ => False) rfl rfl ?aP (fun _ hk => hk.elim) ?aF ?aO ?aB ?aS ?aL ?_
           (case aP => exact k50_mkM _ _ _ (⟨rdOf ByteArray.empty l1 (ji5), rdOf ByteArray.empty l1 (ji8), ((rd l0 x7_1) == 1)⟩ : S50))
           (case aB => exact (by repeat (first | (with_reducible first | exact HB.out | apply below_alloc | apply pw_below_drewN | apply below_drew1) | exact HB.out)))
           (case aF => exact (fun _ _ => trivial))
           (case aO => exact (by (with_reducible repeat (first | apply Kd.R_alloc | apply Kd.R_drewN | apply Kd.R_drew)); exact HO_6.out))
           (case aS => exact (below_size (by repeat (first | (with_reducible first | exact HB.out | apply below_alloc | apply pw_below_drewN | apply below_drew1) | exact HB.out))))
           (case aL => have := LMc12.out; omega)
           intro v314 w14 ho hb hg hat
           rw [← Ny313.out] at ho
           have n0_ := Aside0.mk (hb)
           have n1_ := Aside0.mk (ho)
           clear HB
           clear HO_6
           have HB := n0_
           have HO315 := n1_
           clear n0_ n1_
           clear ho hb hg hat
           refine hK.out _ _ ⟨((HB.out.cell (World.block_lt_of_cell? w _ hw310_0)).trans hw310_0), ((HB.out.cell (World.block_lt_of_cell? w _ hw311_0)).trans hw311_0), ((HB.out.cell (World.block_lt_of_cell? w _ hw312_0)).trans hw312_0)⟩ (fun hHeld => ?_)
           clear hK K
           refine norm_ (a' := ?_) ?_ ?_
           rotate_left
           ·show Act.put _ (some 39) _ = _
            simp only [Act.put, List.setIfInBounds_toArray, List.set_cons_zero, List.set_cons_succ, i64_w, i32_w]
            rfl
           refine pure_ (i := 20) (N := some 6) (v := ?_) (a' := ?_) #[true, true, true, true, true, true, true, true, true, true, true, true, true, true, true, true, true, true, true, true, true] rfl rfl (any_of HT_.out (by kernel_rfl)) (fun _ _ _ h => h) (Or.inl ⟨by rfl, ?_⟩) ?_ ?_
           rotate_left
           ·intro w'
            go_simp
            with_reducible rfl
           rotate_left
           ·simp only [Act.put, List.setIfInBounds_toArray, List.set_cons_zero, List.set_cons_succ, i64_w, i32_w]
            rfl
           refine done_ (done_of HT_.out (by kernel_rfl)) ?_
           try go_wp2
           go_roundg k1
           case measure => have := HK1.out; omega
           case rel => exact ⟨(y313), (wrap64 (x7_1 + 1)), (by first | rfl | (simp; done) | (simp [*]; done)), H', ⟨by have := HK1.out; omega⟩, ⟨by (with_reducible repeat (first | apply Kd.R_alloc | apply Kd.R_drewN | apply Kd.R_drew)); exact HO315.out⟩, ⟨by repeat (first | (with_reducible first | exact HB.out | apply below_alloc | apply pw_below_drewN | apply below_drew1) | exact HB.out)⟩⟩
          ·rw [if_neg c12] at H
           exact absurd H (by simp)
         ·rw [if_neg c11] at H
          exact absurd H (by simp)
        ·rw [if_neg c10] at H
         exact absurd H (by simp)
       ·rw [if_neg c9] at H
        exact absurd H (by simp)
      ·rw [if_neg c7] at H
       exact absurd H (by simp)
     ·rw [if_neg c6] at H
      exact absurd H (by simp)
    ·rw [if_neg c4] at H
     have c4b0 : decide (x7_1 < (l0.length : Int)) = false := decide_eq_false c4
     clear c4
     simp only [Option.some.injEq, Prod.mk.injEq] at H
     obtain ⟨rfl, rfl⟩ := H
     go_wp2
     go_ret2
     exact ⟨_, by first | rfl | (simp [errW_none, errW_some] <;> rfl) | (simp [*, errW_none, errW_some] <;> rfl), by (with_reducible repeat (first | apply Kd.R_alloc | apply Kd.R_drewN | apply Kd.R_drew)); exact HO_6.out, by repeat (first | (with_reducible first | exact HB.out | apply below_alloc | apply pw_below_drewN | apply below_drew1) | exact HB.out)⟩
 ·rw [if_neg c3] at H
  have c3b0 : ((l1.length : Int) == (wrap64 (2 * (l0.length : Int)))) = false := beq_eq_false_iff_ne.mpr c3
  have c3b1 : ((l1.length : Int) != (wrap64 (2 * (l0.length : Int)))) = true := bne_iff_ne.mpr c3
  simp only [Option.some.injEq, Prod.mk.injEq] at H
  obtain ⟨rfl, rfl⟩ := H
  go_enter Try.func39, Try.ntmps39
  go_wp2
  go_ret2
  exact ⟨_, by first | rfl | (simp [errW_none, errW_some] <;> rfl) | (simp [*, errW_none, errW_some] <;> rfl), by first | exact Kd.R_nil _ _ _ _ _ | exact Kd.N_nil _ _ _ _ _ | exact Kd.V_nil _ _ _ _ _ | exact Kd.Q_nil _ _ _ _ _ | exact Kd.S_nil _ _ _ _ _, by repeat (first | (with_reducible first | exact HB.out | apply below_alloc | apply pw_below_drewN | apply below_drew1) | exact HB.out)⟩
end Go.Proofs.Ytbfjbcaabijpfaa.Al

namespace Go.Proofs.Ytbfjbcaabijpfaa.Al
open Go.RowKit Go.Proofs.YtbfjbcaabijpfaaW.PrintWords Go.Proofs.YtbfjbcaabijpfaaW.PrintLast Go.Proofs.YtbfjbcaabijpfaaW.PrintMore
attribute [local go_sem] max2_int min2_int max_two min_two max_three min_three max_four min_four   -- for this text's walks alone
set_option linter.unusedVariables false
set_option linter.unusedSimpArgs false
def corncribref07_Txn.f (a0 : Int) : Option (Bool) := if a0 ≥ 1 then (some (decide (a0 ≤ 1125899906842623))) else (some false)
set_option maxHeartbeats 8000000 in
set_option maxRecDepth 100000 in
theorem corncribref07_Txn.calls (a0 : Int) (r : Bool) (w : World) (h : corncribref07_Txn.f a0 = some r) :
  Calls Try.prog 26 #[.int .i64 a0] w fun e w' => e = .returned (.bool r) ∧ Drawn0 w w' := by
 have H : (if a0 ≥ 1 then (some (decide (a0 ≤ 1125899906842623))) else (some false)) = some r := h
 clear h
 by_cases c2 : a0 ≥ 1
 ·rw [if_pos c2] at H
  have c2b0 : decide (1 ≤ a0) = true := decide_eq_true c2
  clear c2
  obtain rfl := Option.some.inj H
  go_enter Try.func26, Try.ntmps26
  go_wp2
  go_ret
  exact ⟨by first | rfl | (simp; done) | (simp [*]; done), by repeat (first | exact Drawn0.refl _ | apply Drawn0.step)⟩
 ·rw [if_neg c2] at H
  have c2b0 : decide (1 ≤ a0) = false := decide_eq_false c2
  clear c2
  obtain rfl := Option.some.inj H
  go_enter Try.func26, Try.ntmps26
  go_wp2
  go_ret
  exact ⟨by first | rfl | (simp; done) | (simp [*]; done), by repeat (first | exact Drawn0.refl _ | apply Drawn0.step)⟩
end Go.Proofs.Ytbfjbcaabijpfaa.Al

namespace Go.Proofs.Ytbfjbcaabijpfaa.Al
open Go.RowKit Go.Proofs.YtbfjbcaabijpfaaW.PrintWords Go.Proofs.YtbfjbcaabijpfaaW.PrintLast Go.Proofs.YtbfjbcaabijpfaaW.PrintMore
attribute [local go_sem] max2_int min2_int max_two min_two max_three min_three max_four min_four   -- for this text's walks alone
set_option linter.unusedVariables false
set_option linter.unusedSimpArgs false
def corncribref07_Stamp.f (a0 : Int) : Option (Bool) := if a0 ≥ 0 then (some (decide (a0 ≤ 1125899906842624))) else (some false)
set_option maxHeartbeats 8000000 in
set_option maxRecDepth 100000 in
theorem corncribref07_Stamp.calls (a0 : Int) (r : Bool) (w : World) (h : corncribref07_Stamp.f a0 = some r) :
  Calls Try.prog 27 #[.int .i64 a0] w fun e w' => e = .returned (.bool r) ∧ Drawn0 w w' := by
 have H : (if a0 ≥ 0 then (some (decide (a0 ≤ 1125899906842624))) else (some false)) = some r := h
 clear h
 by_cases c2 : a0 ≥ 0
 ·rw [if_pos c2] at H
  have c2b0 : decide (0 ≤ a0) = true := decide_eq_true c2
  clear c2
  obtain rfl := Option.some.inj H
  go_enter Try.func27, Try.ntmps27
  go_wp2
  go_ret
  exact ⟨by first | rfl | (simp; done) | (simp [*]; done), by repeat (first | exact Drawn0.refl _ | apply Drawn0.step)⟩
 ·rw [if_neg c2] at H
  have c2b0 : decide (0 ≤ a0) = false := decide_eq_false c2
  clear c2
  obtain rfl := Option.some.inj H
  go_enter Try.func27, Try.ntmps27
  go_wp2
  go_ret
  exact ⟨by first | rfl | (simp; done) | (simp [*]; done), by repeat (first | exact Drawn0.refl _ | apply Drawn0.step)⟩
end Go.Proofs.Ytbfjbcaabijpfaa.Al

namespace Go.Proofs.Ytbfjbcaabijpfaa.Al
open Go.RowKit Go.Proofs.YtbfjbcaabijpfaaW.PrintWords Go.Proofs.YtbfjbcaabijpfaaW.PrintLast Go.Proofs.YtbfjbcaabijpfaaW.PrintMore
attribute [local go_sem] max2_int min2_int max_two min_two max_three min_three max_four min_four   -- for this text's walks alone
set_option linter.unusedVariables false
set_option linter.unusedSimpArgs false
def corncribref07_Key.f (a0 : ByteArray) : Option (Bool) := if (a0.size : Int) ≥ 1 then (some (decide ((a0.size : Int) ≤ 32))) else (some false)
set_option maxHeartbeats 8000000 in
set_option maxRecDepth 100000 in
theorem corncribref07_Key.calls (a0 : ByteArray) (r : Bool) (w : World) (h : corncribref07_Key.f a0 = some r) :
  Calls Try.prog 30 #[.string a0] w fun e w' => e = .returned (.bool r) ∧ Drawn0 w w' := by
 have H : (if (a0.size : Int) ≥ 1 then (some (decide ((a0.size : Int) ≤ 32))) else (some false)) = some r := h
 clear h
 by_cases c2 : (a0.size : Int) ≥ 1
 ·rw [if_pos c2] at H
  have c2b0 : decide (1 ≤ (a0.size : Int)) = true := decide_eq_true c2
  have c2b1 : decide (1 ≤ a0.size) = true := decide_eq_true (by omega)
  clear c2
  obtain rfl := Option.some.inj H
  go_enter Try.func30, Try.ntmps30
  go_wp2
  go_ret
  exact ⟨by first | rfl | (simp; done) | (simp [*]; done), by repeat (first | exact Drawn0.refl _ | apply Drawn0.step)⟩
 ·rw [if_neg c2] at H
  have c2b0 : decide (1 ≤ (a0.size : Int)) = false := decide_eq_false c2
  have c2b1 : decide (1 ≤ a0.size) = false := decide_eq_false (by omega)
  clear c2
  obtain rfl := Option.some.inj H
  go_enter Try.func30, Try.ntmps30
  go_wp2
  go_ret
  exact ⟨by first | rfl | (simp; done) | (simp [*]; done), by repeat (first | exact Drawn0.refl _ | apply Drawn0.step)⟩
end Go.Proofs.Ytbfjbcaabijpfaa.Al

namespace Go.Proofs.Ytbfjbcaabijpfaa.Al
open Go.RowKit Go.Proofs.YtbfjbcaabijpfaaW.PrintWords Go.Proofs.YtbfjbcaabijpfaaW.PrintLast Go.Proofs.YtbfjbcaabijpfaaW.PrintMore
attribute [local go_sem] max2_int min2_int max_two min_two max_three min_three max_four min_four   -- for this text's walks alone
set_option linter.unusedVariables false
set_option linter.unusedSimpArgs false
attribute [local go_sem] leq_not
def corncribref07_Rising.l0 : Nat → List ByteArray → Int → Option (Bool)
 |0, _, _ => none
 |k + 1, x0, x3 => if x3 < (x0.length : Int) then (if 0 ≤ x3 then ((corncribref07_Key.f (rdOf ByteArray.empty x0 x3)).bind fun t171 => (if t171 = true then (if x3 > 0 then (if 0 ≤ (wrap64 (x3 - 1)) then (if (wrap64 (x3 - 1)) < (x0.length : Int) then (if ((Op.bytesLess ((rdOf ByteArray.empty x0 (wrap64 (x3 - 1))).toList) ((rdOf ByteArray.empty x0 x3).toList)) = true) then (corncribref07_Rising.l0 k x0 (wrap64 (x3 + 1))) else (some false)) else (none)) else (none)) else (corncribref07_Rising.l0 k x0 (wrap64 (x3 + 1)))) else (some false))) else (none)) else (some true)
def corncribref07_Rising.f (k : Nat) (l0 : List ByteArray) : Option (Bool) := corncribref07_Rising.l0 k l0 0
set_option maxHeartbeats 8000000 in
set_option maxRecDepth 100000 in
theorem corncribref07_Rising.calls (k : Nat) (A0 : Option Addr) (c0 : Nat) (l0 : List ByteArray) (r : Bool) (w : World) (hr0 : Kd.C Kd.string w A0 l0.length l0) (hc0 : l0.length ≤ c0) (h : corncribref07_Rising.f k l0 = some r) :
  Calls Try.prog 28 #[.slice A0 l0.length c0] w fun e w' => e = .returned (.bool r) ∧ Drawn0 w w' := by
 have HR0 := Aside0.mk hr0
 have HC0 := Aside0.mk hc0
 clear hr0 hc0
 have H : (corncribref07_Rising.l0 k l0 0) = some r := h
 clear h
 have H' := Aside0.mk H
 clear H
 go_enter Try.func28, Try.ntmps28
 go_wp2
 repeat (go_quiet (fail); try go_wp2)
 go_loopg [3] k (fun kq v3 w' => ∃ (x3_1 : Int), v3 = .int .i64 x3_1 ∧ Aside0 (corncribref07_Rising.l0 kq l0 x3_1 = some r) ∧ Aside0 (kq ≤ k) ∧ Drawn0 w w')
 case atStart => exact ⟨(0), (by first | rfl | (simp; done) | (simp [*]; done) | (simp [bne_nil_]; done)), H', ⟨Nat.le_refl _⟩, by repeat (first | exact Drawn0.refl _ | apply Drawn0.step)⟩
 case round =>
  clear H'
  obtain ⟨x3_1, rfl, HA, HK1, ⟨m1, rfl⟩⟩ := hrel
  cases gk with
  |zero => exact absurd HA.out (by simp [corncribref07_Rising.l0])
  |succ k1 =>
   have H := HA.out
   clear HA
   simp only [corncribref07_Rising.l0] at H
   by_cases c2 : x3_1 < (l0.length : Int)
   ·rw [if_pos c2] at H
    have c2b0 : decide (x3_1 < (l0.length : Int)) = true := decide_eq_true c2
    clear c2
    by_cases c3 : 0 ≤ x3_1
    ·rw [if_pos c3] at H
     have c3b0 : decide (0 ≤ x3_1) = true := decide_eq_true c3
     clear c3
     replace H := Option.bind_eq_some_iff.mp H
     obtain ⟨t171, A40, H⟩ := H
     replace H : (if t171 = true then (if x3_1 > 0 then (if 0 ≤ (wrap64 (x3_1 - 1)) then (if (wrap64 (x3_1 - 1)) < (l0.length : Int) then (if ((Op.bytesLess ((rdOf ByteArray.empty l0 (wrap64 (x3_1 - 1))).toList) ((rdOf ByteArray.empty l0 x3_1).toList)) = true) then (corncribref07_Rising.l0 k1 l0 (wrap64 (x3_1 + 1))) else (some false)) else (none)) else (none)) else (corncribref07_Rising.l0 k1 l0 (wrap64 (x3_1 + 1)))) else (some false)) = some r := H
     have A4 := Aside0.mk A40
     clear A40
     by_cases c5 : t171 = true
     ·subst c5
      have H1 : (if x3_1 > 0 then (if 0 ≤ (wrap64 (x3_1 - 1)) then (if (wrap64 (x3_1 - 1)) < (l0.length : Int) then (if ((Op.bytesLess ((rdOf ByteArray.empty l0 (wrap64 (x3_1 - 1))).toList) ((rdOf ByteArray.empty l0 x3_1).toList)) = true) then (corncribref07_Rising.l0 k1 l0 (wrap64 (x3_1 + 1))) else (some false)) else (none)) else (none)) else (corncribref07_Rising.l0 k1 l0 (wrap64 (x3_1 + 1)))) = some r := by rw [if_pos rfl] at H; exact H
      clear H
      have H := H1
      clear H1
      by_cases c6 : x3_1 > 0
      ·rw [if_pos c6] at H
       have c6b0 : decide (0 < x3_1) = true := decide_eq_true c6
       clear c6
       obtain ⟨ji7, hji7⟩ : ∃ j_ : Int, (wrap64 (x3_1 - 1)) = j_ := ⟨_, rfl⟩
       replace H : (if 0 ≤ (ji7) then (if (ji7) < (l0.length : Int) then (if ((Op.bytesLess ((rdOf ByteArray.empty l0 (ji7)).toList) ((rdOf ByteArray.empty l0 x3_1).toList)) = true) then (corncribref07_Rising.l0 k1 l0 (wrap64 (x3_1 + 1))) else (some false)) else (none)) else (none)) = some r := by first | (rw [hji7] at H; exact H) | (simp only [hji7] at H ⊢; exact H)
       (try rw [hji7] at A4)
       have hji7w : (IntKind.i64.wrap (x3_1 - 1)) = ji7 := (i64_w _).trans hji7
       by_cases c8 : 0 ≤ (ji7)
       ·rw [if_pos c8] at H
        have c8b0 : decide (0 ≤ (ji7)) = true := decide_eq_true c8
        clear c8
        by_cases c9 : (ji7) < (l0.length : Int)
        ·rw [if_pos c9] at H
         have c9b0 : decide ((ji7) < (l0.length : Int)) = true := decide_eq_true c9
         clear c9
         by_cases c10 : ((Op.bytesLess ((rdOf ByteArray.empty l0 (ji7)).toList) ((rdOf ByteArray.empty l0 x3_1).toList)) = true)
         ·rw [if_pos c10] at H
          have c10b0 : (Op.bytesLess ((rdOf ByteArray.empty l0 (ji7)).toList) ((rdOf ByteArray.empty l0 x3_1).toList)) = true := c10
          clear c10
          have H' := Aside0.mk H
          clear H
          have p170 : 0 ≤ (x3_1 : Int) := of_decide_eq_true (by first | (with_reducible assumption) | assumption)
          have q170 : x3_1 < (l0.length : Int) := of_decide_eq_true (by first | (with_reducible assumption) | assumption)
          obtain ⟨ad170, e170, hx170_0⟩ := Kd.at_string HR0.out x3_1 p170 q170
          cases e170
          replace p170 := eq_true p170
          replace q170 := eq_true q170
          go_wp2_with (first | (go_at_call 30; (with_reducible refine (corncribref07_Key.calls (rdOf ByteArray.empty l0 x3_1) true _ A4.out).mono ?_); rintro e w' ⟨rfl, ⟨nd, rfl⟩⟩; (try first | exact ⟨rfl, _, World.drewN_drewN _ _ _⟩ | exact ⟨rfl, _, Eq.trans (World.drewN_drewN _ _ _) (congrArg (World.drewN _) (Nat.add_assoc _ _ _))⟩); have p172 : 0 ≤ (x3_1 : Int) := of_decide_eq_true (by first | (with_reducible assumption) | assumption); have q172 : x3_1 < (l0.length : Int) := of_decide_eq_true (by first | (with_reducible assumption) | assumption); obtain ⟨ad172, e172, hx172_0⟩ := Kd.at_string HR0.out x3_1 p172 q172; obtain rfl : ad170 = ad172 := (by injection e172); replace p172 := eq_true p172; replace q172 := eq_true q172; have p173 : 0 ≤ ((ji7) : Int) := of_decide_eq_true (by first | (with_reducible assumption) | assumption); have q173 : (ji7) < (l0.length : Int) := of_decide_eq_true (by first | (with_reducible assumption) | assumption); obtain ⟨ad173, e173, hx173_0⟩ := Kd.at_string HR0.out (ji7) p173 q173; obtain rfl : ad170 = ad173 := (by injection e173); replace p173 := eq_true p173; replace q173 := eq_true q173))
          repeat (go_quiet (first | (go_at_call 30; (with_reducible refine (corncribref07_Key.calls (rdOf ByteArray.empty l0 x3_1) true _ A4.out).mono ?_); rintro e w' ⟨rfl, ⟨nd, rfl⟩⟩; (try first | exact ⟨rfl, _, World.drewN_drewN _ _ _⟩ | exact ⟨rfl, _, Eq.trans (World.drewN_drewN _ _ _) (congrArg (World.drewN _) (Nat.add_assoc _ _ _))⟩); have p172 : 0 ≤ (x3_1 : Int) := of_decide_eq_true (by first | (with_reducible assumption) | assumption); have q172 : x3_1 < (l0.length : Int) := of_decide_eq_true (by first | (with_reducible assumption) | assumption); obtain ⟨ad172, e172, hx172_0⟩ := Kd.at_string HR0.out x3_1 p172 q172; obtain rfl : ad170 = ad172 := (by injection e172); replace p172 := eq_true p172; replace q172 := eq_true q172; have p173 : 0 ≤ ((ji7) : Int) := of_decide_eq_true (by first | (with_reducible assumption) | assumption); have q173 : (ji7) < (l0.length : Int) := of_decide_eq_true (by first | (with_reducible assumption) | assumption); obtain ⟨ad173, e173, hx173_0⟩ := Kd.at_string HR0.out (ji7) p173 q173; obtain rfl : ad170 = ad173 := (by injection e173); replace p173 := eq_true p173; replace q173 := eq_true q173)); try go_wp2_with (first | (go_at_call 30; (with_reducible refine (corncribref07_Key.calls (rdOf ByteArray.empty l0 x3_1) true _ A4.out).mono ?_); rintro e w' ⟨rfl, ⟨nd, rfl⟩⟩; (try first | exact ⟨rfl, _, World.drewN_drewN _ _ _⟩ | exact ⟨rfl, _, Eq.trans (World.drewN_drewN _ _ _) (congrArg (World.drewN _) (Nat.add_assoc _ _ _))⟩); have p172 : 0 ≤ (x3_1 : Int) := of_decide_eq_true (by first | (with_reducible assumption) | assumption); have q172 : x3_1 < (l0.length : Int) := of_decide_eq_true (by first | (with_reducible assumption) | assumption); obtain ⟨ad172, e172, hx172_0⟩ := Kd.at_string HR0.out x3_1 p172 q172; obtain rfl : ad170 = ad172 := (by injection e172); replace p172 := eq_true p172; replace q172 := eq_true q172; have p173 : 0 ≤ ((ji7) : Int) := of_decide_eq_true (by first | (with_reducible assumption) | assumption); have q173 : (ji7) < (l0.length : Int) := of_decide_eq_true (by first | (with_reducible assumption) | assumption); obtain ⟨ad173, e173, hx173_0⟩ := Kd.at_string HR0.out (ji7) p173 q173; obtain rfl : ad170 = ad173 := (by injection e173); replace p173 := eq_true p173; replace q173 := eq_true q173)))
          go_roundg k1
          case measure => have := HK1.out; omega
          case rel => exact ⟨(wrap64 (x3_1 + 1)), (by first | rfl | (simp; done) | (simp [*]; done) | (simp [bne_nil_]; done)), H', ⟨by have := HK1.out; omega⟩, by repeat (first | exact Drawn0.refl _ | apply Drawn0.step)⟩
         ·rw [if_neg c10] at H
          have c10b0 : (Op.bytesLess ((rdOf ByteArray.empty l0 (ji7)).toList) ((rdOf ByteArray.empty l0 x3_1).toList)) = false := by simpa using c10
          clear c10
          obtain rfl := Option.some.inj H
          have p170 : 0 ≤ (x3_1 : Int) := of_decide_eq_true (by first | (with_reducible assumption) | assumption)
          have q170 : x3_1 < (l0.length : Int) := of_decide_eq_true (by first | (with_reducible assumption) | assumption)
          obtain ⟨ad170, e170, hx170_0⟩ := Kd.at_string HR0.out x3_1 p170 q170
          cases e170
          replace p170 := eq_true p170
          replace q170 := eq_true q170
          go_wp2_with (first | (go_at_call 30; (with_reducible refine (corncribref07_Key.calls (rdOf ByteArray.empty l0 x3_1) true _ A4.out).mono ?_); rintro e w' ⟨rfl, ⟨nd, rfl⟩⟩; (try first | exact ⟨rfl, _, World.drewN_drewN _ _ _⟩ | exact ⟨rfl, _, Eq.trans (World.drewN_drewN _ _ _) (congrArg (World.drewN _) (Nat.add_assoc _ _ _))⟩); have p172 : 0 ≤ (x3_1 : Int) := of_decide_eq_true (by first | (with_reducible assumption) | assumption); have q172 : x3_1 < (l0.length : Int) := of_decide_eq_true (by first | (with_reducible assumption) | assumption); obtain ⟨ad172, e172, hx172_0⟩ := Kd.at_string HR0.out x3_1 p172 q172; obtain rfl : ad170 = ad172 := (by injection e172); replace p172 := eq_true p172; replace q172 := eq_true q172; have p173 : 0 ≤ ((ji7) : Int) := of_decide_eq_true (by first | (with_reducible assumption) | assumption); have q173 : (ji7) < (l0.length : Int) := of_decide_eq_true (by first | (with_reducible assumption) | assumption); obtain ⟨ad173, e173, hx173_0⟩ := Kd.at_string HR0.out (ji7) p173 q173; obtain rfl : ad170 = ad173 := (by injection e173); replace p173 := eq_true p173; replace q173 := eq_true q173))
          repeat (go_quiet (first | (go_at_call 30; (with_reducible refine (corncribref07_Key.calls (rdOf ByteArray.empty l0 x3_1) true _ A4.out).mono ?_); rintro e w' ⟨rfl, ⟨nd, rfl⟩⟩; (try first | exact ⟨rfl, _, World.drewN_drewN _ _ _⟩ | exact ⟨rfl, _, Eq.trans (World.drewN_drewN _ _ _) (congrArg (World.drewN _) (Nat.add_assoc _ _ _))⟩); have p172 : 0 ≤ (x3_1 : Int) := of_decide_eq_true (by first | (with_reducible assumption) | assumption); have q172 : x3_1 < (l0.length : Int) := of_decide_eq_true (by first | (with_reducible assumption) | assumption); obtain ⟨ad172, e172, hx172_0⟩ := Kd.at_string HR0.out x3_1 p172 q172; obtain rfl : ad170 = ad172 := (by injection e172); replace p172 := eq_true p172; replace q172 := eq_true q172; have p173 : 0 ≤ ((ji7) : Int) := of_decide_eq_true (by first | (with_reducible assumption) | assumption); have q173 : (ji7) < (l0.length : Int) := of_decide_eq_true (by first | (with_reducible assumption) | assumption); obtain ⟨ad173, e173, hx173_0⟩ := Kd.at_string HR0.out (ji7) p173 q173; obtain rfl : ad170 = ad173 := (by injection e173); replace p173 := eq_true p173; replace q173 := eq_true q173)); try go_wp2_with (first | (go_at_call 30; (with_reducible refine (corncribref07_Key.calls (rdOf ByteArray.empty l0 x3_1) true _ A4.out).mono ?_); rintro e w' ⟨rfl, ⟨nd, rfl⟩⟩; (try first | exact ⟨rfl, _, World.drewN_drewN _ _ _⟩ | exact ⟨rfl, _, Eq.trans (World.drewN_drewN _ _ _) (congrArg (World.drewN _) (Nat.add_assoc _ _ _))⟩); have p172 : 0 ≤ (x3_1 : Int) := of_decide_eq_true (by first | (with_reducible assumption) | assumption); have q172 : x3_1 < (l0.length : Int) := of_decide_eq_true (by first | (with_reducible assumption) | assumption); obtain ⟨ad172, e172, hx172_0⟩ := Kd.at_string HR0.out x3_1 p172 q172; obtain rfl : ad170 = ad172 := (by injection e172); replace p172 := eq_true p172; replace q172 := eq_true q172; have p173 : 0 ≤ ((ji7) : Int) := of_decide_eq_true (by first | (with_reducible assumption) | assumption); have q173 : (ji7) < (l0.length : Int) := of_decide_eq_true (by first | (with_reducible assumption) | assumption); obtain ⟨ad173, e173, hx173_0⟩ := Kd.at_string HR0.out (ji7) p173 q173; obtain rfl : ad170 = ad173 := (by injection e173); replace p173 := eq_true p173; replace q173 := eq_true q173)))
          go_ret
          exact ⟨by first | rfl | (simp; done) | (simp only [← hji7] <;> (first | rfl | simp)) | (simp [*]; done), by repeat (first | exact Drawn0.refl _ | apply Drawn0.step)⟩
        ·rw [if_neg c9] at H
         exact absurd H (by simp)
       ·rw [if_neg c8] at H
        exact absurd H (by simp)
      ·rw [if_neg c6] at H
       have c6b0 : decide (0 < x3_1) = false := decide_eq_false c6
       clear c6
       have H' := Aside0.mk H
       clear H
       have p170 : 0 ≤ (x3_1 : Int) := of_decide_eq_true (by first | (with_reducible assumption) | assumption)
       have q170 : x3_1 < (l0.length : Int) := of_decide_eq_true (by first | (with_reducible assumption) | assumption)
       obtain ⟨ad170, e170, hx170_0⟩ := Kd.at_string HR0.out x3_1 p170 q170
       cases e170
       replace p170 := eq_true p170
       replace q170 := eq_true q170
       go_wp2_with (first | (go_at_call 30; (with_reducible refine (corncribref07_Key.calls (rdOf ByteArray.empty l0 x3_1) true _ A4.out).mono ?_); rintro e w' ⟨rfl, ⟨nd, rfl⟩⟩; (try first | exact ⟨rfl, _, World.drewN_drewN _ _ _⟩ | exact ⟨rfl, _, Eq.trans (World.drewN_drewN _ _ _) (congrArg (World.drewN _) (Nat.add_assoc _ _ _))⟩)))
       repeat (go_quiet (first | (go_at_call 30; (with_reducible refine (corncribref07_Key.calls (rdOf ByteArray.empty l0 x3_1) true _ A4.out).mono ?_); rintro e w' ⟨rfl, ⟨nd, rfl⟩⟩; (try first | exact ⟨rfl, _, World.drewN_drewN _ _ _⟩ | exact ⟨rfl, _, Eq.trans (World.drewN_drewN _ _ _) (congrArg (World.drewN _) (Nat.add_assoc _ _ _))⟩))); try go_wp2_with (first | (go_at_call 30; (with_reducible refine (corncribref07_Key.calls (rdOf ByteArray.empty l0 x3_1) true _ A4.out).mono ?_); rintro e w' ⟨rfl, ⟨nd, rfl⟩⟩; (try first | exact ⟨rfl, _, World.drewN_drewN _ _ _⟩ | exact ⟨rfl, _, Eq.trans (World.drewN_drewN _ _ _) (congrArg (World.drewN _) (Nat.add_assoc _ _ _))⟩))))
       go_roundg k1
       case measure => have := HK1.out; omega
       case rel => exact ⟨(wrap64 (x3_1 + 1)), (by first | rfl | (simp; done) | (simp [*]; done) | (simp [bne_nil_]; done)), H', ⟨by have := HK1.out; omega⟩, by repeat (first | exact Drawn0.refl _ | apply Drawn0.step)⟩
     ·replace c5 := Bool.eq_false_iff.mpr c5
      subst c5
      have H1 : (some false) = some r := by rw [if_neg (show ¬ (false = true) by decide)] at H; exact H
      clear H
      have H := H1
      clear H1
      obtain rfl := Option.some.inj H
      have p170 : 0 ≤ (x3_1 : Int) := of_decide_eq_true (by first | (with_reducible assumption) | assumption)
      have q170 : x3_1 < (l0.length : Int) := of_decide_eq_true (by first | (with_reducible assumption) | assumption)
      obtain ⟨ad170, e170, hx170_0⟩ := Kd.at_string HR0.out x3_1 p170 q170
      cases e170
      replace p170 := eq_true p170
      replace q170 := eq_true q170
      go_wp2_with (first | (go_at_call 30; (with_reducible refine (corncribref07_Key.calls (rdOf ByteArray.empty l0 x3_1) false _ A4.out).mono ?_); rintro e w' ⟨rfl, ⟨nd, rfl⟩⟩; (try first | exact ⟨rfl, _, World.drewN_drewN _ _ _⟩ | exact ⟨rfl, _, Eq.trans (World.drewN_drewN _ _ _) (congrArg (World.drewN _) (Nat.add_assoc _ _ _))⟩)))
      repeat (go_quiet (first | (go_at_call 30; (with_reducible refine (corncribref07_Key.calls (rdOf ByteArray.empty l0 x3_1) false _ A4.out).mono ?_); rintro e w' ⟨rfl, ⟨nd, rfl⟩⟩; (try first | exact ⟨rfl, _, World.drewN_drewN _ _ _⟩ | exact ⟨rfl, _, Eq.trans (World.drewN_drewN _ _ _) (congrArg (World.drewN _) (Nat.add_assoc _ _ _))⟩))); try go_wp2_with (first | (go_at_call 30; (with_reducible refine (corncribref07_Key.calls (rdOf ByteArray.empty l0 x3_1) false _ A4.out).mono ?_); rintro e w' ⟨rfl, ⟨nd, rfl⟩⟩; (try first | exact ⟨rfl, _, World.drewN_drewN _ _ _⟩ | exact ⟨rfl, _, Eq.trans (World.drewN_drewN _ _ _) (congrArg (World.drewN _) (Nat.add_assoc _ _ _))⟩))))
      go_ret
      exact ⟨by first | rfl | (simp; done) | (simp [*]; done) | (simp [bne_nil_]; done), by repeat (first | exact Drawn0.refl _ | apply Drawn0.step)⟩
    ·rw [if_neg c3] at H
     exact absurd H (by simp)
   ·rw [if_neg c2] at H
    have c2b0 : decide (x3_1 < (l0.length : Int)) = false := decide_eq_false c2
    clear c2
    obtain rfl := Option.some.inj H
    go_wp2
    repeat (go_quiet (fail); try go_wp2)
    go_ret
    exact ⟨by first | rfl | (simp; done) | (simp [*]; done) | (simp [bne_nil_]; done), by repeat (first | exact Drawn0.refl _ | apply Drawn0.step)⟩
end Go.Proofs.Ytbfjbcaabijpfaa.Al

namespace Go.Proofs.Ytbfjbcaabijpfaa.Al
open Go.RowKit Go.Proofs.YtbfjbcaabijpfaaW.PrintWords Go.Proofs.YtbfjbcaabijpfaaW.PrintLast Go.Proofs.YtbfjbcaabijpfaaW.PrintMore
attribute [local go_sem] max2_int min2_int max_two min_two max_three min_three max_four min_four   -- for this text's walks alone
set_option linter.unusedVariables false
set_option linter.unusedSimpArgs false
def corncribref07_Writes.l0 : Nat → List (S50) → List ByteArray → Int → Option (Bool)
 |0, _, _, _ => none
 |k + 1, x0, x3, x4 => if x4 < (x0.length : Int) then (if 0 ≤ x4 then (if x3.length < 8796093022208 then ((some (x3 ++ [(rd_T50 x0 x4).f0] : List ByteArray)).bind fun y175 => (if (((rd_T50 x0 x4).f1).size : Int) > 2052 then (some false) else (if (rd_T50 x0 x4).f2 = true then (if ((rd_T50 x0 x4).f1).toList = ([] : List UInt8) then (corncribref07_Writes.l0 k x0 y175 (wrap64 (x4 + 1))) else (some false)) else (corncribref07_Writes.l0 k x0 y175 (wrap64 (x4 + 1)))))) else (none)) else (none)) else (if (x0.length : Int) ≤ 16 then ((corncribref07_Rising.f k x3).bind fun t181 => (some t181)) else (some false))
def corncribref07_Writes.f (k : Nat) (l0 : List (S50)) : Option (Bool) := corncribref07_Writes.l0 k l0 ([] : List ByteArray) 0
set_option maxHeartbeats 8000000 in
set_option maxRecDepth 100000 in
theorem corncribref07_Writes.calls (k : Nat) (A0 : Option Addr) (c0 : Nat) (l0 : List (S50)) (r : Bool) (w : World) (hr0 : Kd.C k50 w A0 l0.length l0) (hc0 : l0.length ≤ c0) (h : corncribref07_Writes.f k l0 = some r) :
  Calls Try.prog 29 #[.slice A0 l0.length c0] w fun e w' => e = .returned (.bool r) ∧ Below w.heap.size w w' := by
 have HR0 := Aside0.mk hr0
 have HC0 := Aside0.mk hc0
 clear hr0 hc0
 have HB := Aside0.mk (Below.refl w.heap.size w)
 have H : (corncribref07_Writes.l0 k l0 ([] : List ByteArray) 0) = some r := h
 clear h
 have H' := Aside0.mk H
 clear H
 go_enter Try.func29, Try.ntmps29
 go_wp2
 go_loopg [3, 4] k (fun kq v3 v4 w' => ∃ (x3_1 : List ByteArray) (x4_1 : Int), v4 = .int .i64 x4_1 ∧ Aside0 (corncribref07_Writes.l0 kq l0 x3_1 x4_1 = some r) ∧ Aside0 (kq ≤ k) ∧ Aside0 (Kd.R Kd.string 9 w' w.heap.size (fun _ => True) v3 x3_1) ∧ Aside0 (Below w.heap.size w w'))
 case atStart => exact ⟨(([] : List ByteArray)), (0), (by first | rfl | (simp; done) | (simp [*]; done) | (simp [bne_nil_]; done)), H', ⟨Nat.le_refl _⟩, ⟨by first | exact Kd.R_nil _ _ _ _ _ | exact Kd.N_nil _ _ _ _ _ | exact Kd.V_nil _ _ _ _ _ | exact Kd.Q_nil _ _ _ _ _ | exact Kd.S_nil _ _ _ _ _⟩, ⟨by repeat (first | (with_reducible first | exact HB.out | apply below_alloc | apply pw_below_drewN | apply below_drew1) | exact HB.out)⟩⟩
 case round =>
  clear H'
  obtain ⟨x3_1, x4_1, rfl, HA, HK1, HO_3, HB⟩ := hrel
  cases gk with
  |zero => exact absurd HA.out (by simp [corncribref07_Writes.l0])
  |succ k1 =>
   have H := HA.out
   clear HA
   simp only [corncribref07_Writes.l0] at H
   by_cases c2 : x4_1 < (l0.length : Int)
   ·rw [if_pos c2] at H
    have c2b0 : decide (x4_1 < (l0.length : Int)) = true := decide_eq_true c2
    clear c2
    by_cases c3 : 0 ≤ x4_1
    ·rw [if_pos c3] at H
     have c3b0 : decide (0 ≤ x4_1) = true := decide_eq_true c3
     clear c3
     by_cases c4 : x3_1.length < 8796093022208
     ·rw [if_pos c4] at H
      have LMc4 := Aside0.mk c4
      clear c4
      obtain ⟨y175, hy175⟩ : ∃ y_ : List ByteArray, y_ = (x3_1 ++ [(rd_T50 l0 x4_1).f0]) := ⟨_, rfl⟩
      replace H : (if (((rd_T50 l0 x4_1).f1).size : Int) > 2052 then (some false) else (if (rd_T50 l0 x4_1).f2 = true then (if ((rd_T50 l0 x4_1).f1).toList = ([] : List UInt8) then (corncribref07_Writes.l0 k1 l0 y175 (wrap64 (x4_1 + 1))) else (some false)) else (corncribref07_Writes.l0 k1 l0 y175 (wrap64 (x4_1 + 1))))) = some r := by first | (rw [hy175]; with_reducible exact H) | (have H2_ := (Option.bind_some _ _).symm.trans H; rw [hy175]; with_reducible exact H2_) | (have H2_ := (Option.bind_some _ _).symm.trans H; with_reducible exact H2_) | with_reducible exact H | (rw [hy175]; exact H) | exact H
      have Ny175 := Aside0.mk hy175
      clear hy175
      by_cases c5 : (((rd_T50 l0 x4_1).f1).size : Int) > 2052
      ·rw [if_pos c5] at H
       have c5b0 : decide (2052 < (((rd_T50 l0 x4_1).f1).size : Int)) = true := decide_eq_true c5
       have c5b1 : decide (2052 < ((rd_T50 l0 x4_1).f1).size) = true := decide_eq_true (by omega)
       clear c5
       obtain rfl := Option.some.inj H
       have p174 : 0 ≤ (x4_1 : Int) := of_decide_eq_true (by first | (with_reducible assumption) | assumption)
       have q174 : x4_1 < (l0.length : Int) := of_decide_eq_true (by first | (with_reducible assumption) | assumption)
       obtain ⟨ad174, e174, hx174_0, hx174_1, hx174_2⟩ := at_T50 HR0.out x4_1 p174 q174
       cases e174
       replace hx174_0 := (HB.out.cell (World.block_lt_of_cell? w _ hx174_0)).trans hx174_0
       replace hx174_1 := (HB.out.cell (World.block_lt_of_cell? w _ hx174_1)).trans hx174_1
       replace hx174_2 := (HB.out.cell (World.block_lt_of_cell? w _ hx174_2)).trans hx174_2
       replace p174 := eq_true p174
       replace q174 := eq_true q174
       go_wp2_with (first | ((with_reducible refine gate_builtin (b := .append) (xs := #[.tmp 11, .tmp 17]) rfl ?_); at_builtin; refine Kd.R_append Kd.string (w0 := w) w.heap.size rfl (.tmp 11) (.tmp 17) 22 9 (.string ⟨#[]⟩) 16 rfl Try.underlying22 info9 rfl (by decide) (by omega) u3 x3_1 ((rd_T50 l0 x4_1).f0) [.string ((rd_T50 l0 x4_1).f0)] (fun _ => True) (fun _ => False) rfl rfl ?aP (fun _ hk => hk.elim) ?aF ?aO ?aB ?aS ?aL ?_; (case aP => exact rfl); (case aB => exact (by repeat (first | (with_reducible first | exact HB.out | apply below_alloc | apply pw_below_drewN | apply below_drew1) | exact HB.out))); (case aF => exact (fun _ _ => trivial)); (case aO => exact (by (with_reducible repeat (first | apply Kd.R_alloc | apply Kd.R_drewN | apply Kd.R_drew)); exact HO_3.out)); (case aS => exact (below_size (by repeat (first | (with_reducible first | exact HB.out | apply below_alloc | apply pw_below_drewN | apply below_drew1) | exact HB.out)))); (case aL => have := LMc4.out; omega); intro v176 w6 ho hb hg hat; rw [← Ny175.out] at ho; have n0_ := Aside0.mk (hb); have n1_ := Aside0.mk (ho); clear HB; clear HO_3; have HB := n0_; have HO177 := n1_; clear n0_ n1_; clear ho hb hg hat; have p178 : 0 ≤ (x4_1 : Int) := of_decide_eq_true (by first | (with_reducible assumption) | assumption); have q178 : x4_1 < (l0.length : Int) := of_decide_eq_true (by first | (with_reducible assumption) | assumption); obtain ⟨ad178, e178, hx178_0, hx178_1, hx178_2⟩ := at_T50 HR0.out x4_1 p178 q178; obtain rfl : ad174 = ad178 := (by injection e178); replace hx178_0 := (HB.out.cell (World.block_lt_of_cell? w _ hx178_0)).trans hx178_0; replace hx178_1 := (HB.out.cell (World.block_lt_of_cell? w _ hx178_1)).trans hx178_1; replace hx178_2 := (HB.out.cell (World.block_lt_of_cell? w _ hx178_2)).trans hx178_2; replace p178 := eq_true p178; replace q178 := eq_true q178))
       go_ret
       exact ⟨by first | rfl | (simp [errW_none, errW_some] <;> rfl) | (simp [*, errW_none, errW_some] <;> rfl), by repeat (first | (with_reducible first | exact HB.out | apply below_alloc | apply pw_below_drewN | apply below_drew1) | exact HB.out)⟩
      ·rw [if_neg c5] at H
       have c5b0 : decide (2052 < (((rd_T50 l0 x4_1).f1).size : Int)) = false := decide_eq_false c5
       have c5b1 : decide (2052 < ((rd_T50 l0 x4_1).f1).size) = false := decide_eq_false (by omega)
       clear c5
       obtain ⟨bq7, hbq7⟩ : ∃ b_ : Bool, b_ = ((rd_T50 l0 x4_1).f2) := ⟨_, rfl⟩
       replace H : (if bq7 = true then (if ((rd_T50 l0 x4_1).f1).toList = ([] : List UInt8) then (corncribref07_Writes.l0 k1 l0 y175 (wrap64 (x4_1 + 1))) else (some false)) else (corncribref07_Writes.l0 k1 l0 y175 (wrap64 (x4_1 + 1)))) = some r := by rw [← hbq7] at H; exact H
       have Nbq7 := Aside0.mk hbq7
       clear hbq7
       by_cases c8 : bq7 = true
       ·subst c8
        have H1 : (if ((rd_T50 l0 x4_1).f1).toList = ([] : List UInt8) then (corncribref07_Writes.l0 k1 l0 y175 (wrap64 (x4_1 + 1))) else (some false)) = some r := by rw [if_pos rfl] at H; exact H
        clear H
        have H := H1
        clear H1
        by_cases c9 : ((rd_T50 l0 x4_1).f1).toList = ([] : List UInt8)
        ·rw [if_pos c9] at H
         have c9b0 : (((rd_T50 l0 x4_1).f1).toList == ([] : List UInt8)) = true := beq_iff_eq.mpr c9
         have c9b1 : (((rd_T50 l0 x4_1).f1).toList != ([] : List UInt8)) = false := bne_eq_false_iff_eq.mpr c9
         clear c9
         have H' := Aside0.mk H
         clear H
         have p174 : 0 ≤ (x4_1 : Int) := of_decide_eq_true (by first | (with_reducible assumption) | assumption)
         have q174 : x4_1 < (l0.length : Int) := of_decide_eq_true (by first | (with_reducible assumption) | assumption)
         obtain ⟨ad174, e174, hx174_0, hx174_1, hx174_2⟩ := at_T50 HR0.out x4_1 p174 q174
         (try rw [← Nbq7.out] at hx174_2)
         (try rw [← Nbq7.out] at hx178_2)
         cases e174
         replace hx174_0 := (HB.out.cell (World.block_lt_of_cell? w _ hx174_0)).trans hx174_0
         replace hx174_1 := (HB.out.cell (World.block_lt_of_cell? w _ hx174_1)).trans hx174_1
         replace hx174_2 := (HB.out.cell (World.block_lt_of_cell? w _ hx174_2)).trans hx174_2
         replace p174 := eq_true p174
         replace q174 := eq_true q174
         go_wp2_with (first | ((with_reducible refine gate_builtin (b := .append) (xs := #[.tmp 11, .tmp 17]) rfl ?_); at_builtin; refine Kd.R_append Kd.string (w0 := w) w.heap.size rfl (.tmp 11) (.tmp 17) 22 9 (.string ⟨#[]⟩) 16 rfl Try.underlying22 info9 rfl (by decide) (by omega) u3 x3_1 ((rd_T50 l0 x4_1).f0) [.string ((rd_T50 l0 x4_1).f0)] (fun _ => True) (fun _ => False) rfl rfl ?aP (fun _ hk => hk.elim) ?aF ?aO ?aB ?aS ?aL ?_; (case aP => exact rfl); (case aB => exact (by repeat (first | (with_reducible first | exact HB.out | apply below_alloc | apply pw_below_drewN | apply below_drew1) | exact HB.out))); (case aF => exact (fun _ _ => trivial)); (case aO => exact (by (with_reducible repeat (first | apply Kd.R_alloc | apply Kd.R_drewN | apply Kd.R_drew)); exact HO_3.out)); (case aS => exact (below_size (by repeat (first | (with_reducible first | exact HB.out | apply below_alloc | apply pw_below_drewN | apply below_drew1) | exact HB.out)))); (case aL => have := LMc4.out; omega); intro v176 w10 ho hb hg hat; rw [← Ny175.out] at ho; have n0_ := Aside0.mk (hb); have n1_ := Aside0.mk (ho); clear HB; clear HO_3; have HB := n0_; have HO177 := n1_; clear n0_ n1_; clear ho hb hg hat; have p178 : 0 ≤ (x4_1 : Int) := of_decide_eq_true (by first | (with_reducible assumption) | assumption); have q178 : x4_1 < (l0.length : Int) := of_decide_eq_true (by first | (with_reducible assumption) | assumption); obtain ⟨ad178, e178, hx178_0, hx178_1, hx178_2⟩ := at_T50 HR0.out x4_1 p178 q178; (try rw [← Nbq7.out] at hx178_2); obtain rfl : ad174 = ad178 := (by injection e178); replace hx178_0 := (HB.out.cell (World.block_lt_of_cell? w _ hx178_0)).trans hx178_0; replace hx178_1 := (HB.out.cell (World.block_lt_of_cell? w _ hx178_1)).trans hx178_1; replace hx178_2 := (HB.out.cell (World.block_lt_of_cell? w _ hx178_2)).trans hx178_2; replace p178 := eq_true p178; replace q178 := eq_true q178; have p179 : 0 ≤ (x4_1 : Int) := of_decide_eq_true (by first | (with_reducible assumption) | assumption); have q179 : x4_1 < (l0.length : Int) := of_decide_eq_true (by first | (with_reducible assumption) | assumption); obtain ⟨ad179, e179, hx179_0, hx179_1, hx179_2⟩ := at_T50 HR0.out x4_1 p179 q179; (try rw [← Nbq7.out] at hx179_2); obtain rfl : ad174 = ad179 := (by injection e179); replace hx179_0 := (HB.out.cell (World.block_lt_of_cell? w _ hx179_0)).trans hx179_0; replace hx179_1 := (HB.out.cell (World.block_lt_of_cell? w _ hx179_1)).trans hx179_1; replace hx179_2 := (HB.out.cell (World.block_lt_of_cell? w _ hx179_2)).trans hx179_2; replace p179 := eq_true p179; replace q179 := eq_true q179; have p180 : 0 ≤ (x4_1 : Int) := of_decide_eq_true (by first | (with_reducible assumption) | assumption); have q180 : x4_1 < (l0.length : Int) := of_decide_eq_true (by first | (with_reducible assumption) | assumption); obtain ⟨ad180, e180, hx180_0, hx180_1, hx180_2⟩ := at_T50 HR0.out x4_1 p180 q180; (try rw [← Nbq7.out] at hx180_2); obtain rfl : ad174 = ad180 := (by injection e180); replace hx180_0 := (HB.out.cell (World.block_lt_of_cell? w _ hx180_0)).trans hx180_0; replace hx180_1 := (HB.out.cell (World.block_lt_of_cell? w _ hx180_1)).trans hx180_1; replace hx180_2 := (HB.out.cell (World.block_lt_of_cell? w _ hx180_2)).trans hx180_2; replace p180 := eq_true p180; replace q180 := eq_true q180))
         go_roundg k1
         case measure => have := HK1.out; omega
         case rel => exact ⟨(y175), (wrap64 (x4_1 + 1)), (by first | rfl | (simp; done) | (simp [*]; done) | (simp [bne_nil_]; done)), H', ⟨by have := HK1.out; omega⟩, ⟨by (with_reducible repeat (first | apply Kd.R_alloc | apply Kd.R_drewN | apply Kd.R_drew)); exact HO177.out⟩, ⟨by repeat (first | (with_reducible first | exact HB.out | apply below_alloc | apply pw_below_drewN | apply below_drew1) | exact HB.out)⟩⟩
        ·rw [if_neg c9] at H
         have c9b0 : (((rd_T50 l0 x4_1).f1).toList == ([] : List UInt8)) = false := beq_eq_false_iff_ne.mpr c9
         have c9b1 : (((rd_T50 l0 x4_1).f1).toList != ([] : List UInt8)) = true := bne_iff_ne.mpr c9
         obtain rfl := Option.some.inj H
         have p174 : 0 ≤ (x4_1 : Int) := of_decide_eq_true (by first | (with_reducible assumption) | assumption)
         have q174 : x4_1 < (l0.length : Int) := of_decide_eq_true (by first | (with_reducible assumption) | assumption)
         obtain ⟨ad174, e174, hx174_0, hx174_1, hx174_2⟩ := at_T50 HR0.out x4_1 p174 q174
         (try rw [← Nbq7.out] at hx174_2)
         (try rw [← Nbq7.out] at hx178_2)
         (try rw [← Nbq7.out] at hx179_2)
         (try rw [← Nbq7.out] at hx180_2)
         cases e174
         replace hx174_0 := (HB.out.cell (World.block_lt_of_cell? w _ hx174_0)).trans hx174_0
         replace hx174_1 := (HB.out.cell (World.block_lt_of_cell? w _ hx174_1)).trans hx174_1
         replace hx174_2 := (HB.out.cell (World.block_lt_of_cell? w _ hx174_2)).trans hx174_2
         replace p174 := eq_true p174
         replace q174 := eq_true q174
         go_wp2_with (first | ((with_reducible refine gate_builtin (b := .append) (xs := #[.tmp 11, .tmp 17]) rfl ?_); at_builtin; refine Kd.R_append Kd.string (w0 := w) w.heap.size rfl (.tmp 11) (.tmp 17) 22 9 (.string ⟨#[]⟩) 16 rfl Try.underlying22 info9 rfl (by decide) (by omega) u3 x3_1 ((rd_T50 l0 x4_1).f0) [.string ((rd_T50 l0 x4_1).f0)] (fun _ => True) (fun _ => False) rfl rfl ?aP (fun _ hk => hk.elim) ?aF ?aO ?aB ?aS ?aL ?_; (case aP => exact rfl); (case aB => exact (by repeat (first | (with_reducible first | exact HB.out | apply below_alloc | apply pw_below_drewN | apply below_drew1) | exact HB.out))); (case aF => exact (fun _ _ => trivial)); (case aO => exact (by (with_reducible repeat (first | apply Kd.R_alloc | apply Kd.R_drewN | apply Kd.R_drew)); exact HO_3.out)); (case aS => exact (below_size (by repeat (first | (with_reducible first | exact HB.out | apply below_alloc | apply pw_below_drewN | apply below_drew1) | exact HB.out)))); (case aL => have := LMc4.out; omega); intro v176 w11 ho hb hg hat; rw [← Ny175.out] at ho; have n0_ := Aside0.mk (hb); have n1_ := Aside0.mk (ho); clear HB; clear HO_3; have HB := n0_; have HO177 := n1_; clear n0_ n1_; clear ho hb hg hat; have p178 : 0 ≤ (x4_1 : Int) := of_decide_eq_true (by first | (with_reducible assumption) | assumption); have q178 : x4_1 < (l0.length : Int) := of_decide_eq_true (by first | (with_reducible assumption) | assumption); obtain ⟨ad178, e178, hx178_0, hx178_1, hx178_2⟩ := at_T50 HR0.out x4_1 p178 q178; (try rw [← Nbq7.out] at hx178_2); obtain rfl : ad174 = ad178 := (by injection e178); replace hx178_0 := (HB.out.cell (World.block_lt_of_cell? w _ hx178_0)).trans hx178_0; replace hx178_1 := (HB.out.cell (World.block_lt_of_cell? w _ hx178_1)).trans hx178_1; replace hx178_2 := (HB.out.cell (World.block_lt_of_cell? w _ hx178_2)).trans hx178_2; replace p178 := eq_true p178; replace q178 := eq_true q178; have p179 : 0 ≤ (x4_1 : Int) := of_decide_eq_true (by first | (with_reducible assumption) | assumption); have q179 : x4_1 < (l0.length : Int) := of_decide_eq_true (by first | (with_reducible assumption) | assumption); obtain ⟨ad179, e179, hx179_0, hx179_1, hx179_2⟩ := at_T50 HR0.out x4_1 p179 q179; (try rw [← Nbq7.out] at hx179_2); obtain rfl : ad174 = ad179 := (by injection e179); replace hx179_0 := (HB.out.cell (World.block_lt_of_cell? w _ hx179_0)).trans hx179_0; replace hx179_1 := (HB.out.cell (World.block_lt_of_cell? w _ hx179_1)).trans hx179_1; replace hx179_2 := (HB.out.cell (World.block_lt_of_cell? w _ hx179_2)).trans hx179_2; replace p179 := eq_true p179; replace q179 := eq_true q179; have p180 : 0 ≤ (x4_1 : Int) := of_decide_eq_true (by first | (with_reducible assumption) | assumption); have q180 : x4_1 < (l0.length : Int) := of_decide_eq_true (by first | (with_reducible assumption) | assumption); obtain ⟨ad180, e180, hx180_0, hx180_1, hx180_2⟩ := at_T50 HR0.out x4_1 p180 q180; (try rw [← Nbq7.out] at hx180_2); obtain rfl : ad174 = ad180 := (by injection e180); replace hx180_0 := (HB.out.cell (World.block_lt_of_cell? w _ hx180_0)).trans hx180_0; replace hx180_1 := (HB.out.cell (World.block_lt_of_cell? w _ hx180_1)).trans hx180_1; replace hx180_2 := (HB.out.cell (World.block_lt_of_cell? w _ hx180_2)).trans hx180_2; replace p180 := eq_true p180; replace q180 := eq_true q180))
         go_ret
         exact ⟨by first | rfl | (simp [errW_none, errW_some] <;> rfl) | (simp [*, errW_none, errW_some] <;> rfl), by repeat (first | (with_reducible first | exact HB.out | apply below_alloc | apply pw_below_drewN | apply below_drew1) | exact HB.out)⟩
       ·replace c8 := Bool.eq_false_iff.mpr c8
        subst c8
        have H1 : (corncribref07_Writes.l0 k1 l0 y175 (wrap64 (x4_1 + 1))) = some r := by rw [if_neg (show ¬ (false = true) by decide)] at H; exact H
        clear H
        have H := H1
        clear H1
        have H' := Aside0.mk H
        clear H
        have p174 : 0 ≤ (x4_1 : Int) := of_decide_eq_true (by first | (with_reducible assumption) | assumption)
        have q174 : x4_1 < (l0.length : Int) := of_decide_eq_true (by first | (with_reducible assumption) | assumption)
        obtain ⟨ad174, e174, hx174_0, hx174_1, hx174_2⟩ := at_T50 HR0.out x4_1 p174 q174
        (try rw [← Nbq7.out] at hx174_2)
        (try rw [← Nbq7.out] at hx178_2)
        (try rw [← Nbq7.out] at hx179_2)
        (try rw [← Nbq7.out] at hx180_2)
        cases e174
        replace hx174_0 := (HB.out.cell (World.block_lt_of_cell? w _ hx174_0)).trans hx174_0
        replace hx174_1 := (HB.out.cell (World.block_lt_of_cell? w _ hx174_1)).trans hx174_1
        replace hx174_2 := (HB.out.cell (World.block_lt_of_cell? w _ hx174_2)).trans hx174_2
        replace p174 := eq_true p174
        replace q174 := eq_true q174
        go_wp2_with (first | ((with_reducible refine gate_builtin (b := .append) (xs := #[.tmp 11, .tmp 17]) rfl ?_); at_builtin; refine Kd.R_append Kd.string (w0 := w) w.heap.size rfl (.tmp 11) (.tmp 17) 22 9 (.string ⟨#[]⟩) 16 rfl Try.underlying22 info9 rfl (by decide) (by omega) u3 x3_1 ((rd_T50 l0 x4_1).f0) [.string ((rd_T50 l0 x4_1).f0)] (fun _ => True) (fun _ => False) rfl rfl ?aP (fun _ hk => hk.elim) ?aF ?aO ?aB ?aS ?aL ?_; (case aP => exact rfl); (case aB => exact (by repeat (first | (with_reducible first | exact HB.out | apply below_alloc | apply pw_below_drewN | apply below_drew1) | exact HB.out))); (case aF => exact (fun _ _ => trivial)); (case aO => exact (by (with_reducible repeat (first | apply Kd.R_alloc | apply Kd.R_drewN | apply Kd.R_drew)); exact HO_3.out)); (case aS => exact (below_size (by repeat (first | (with_reducible first | exact HB.out | apply below_alloc | apply pw_below_drewN | apply below_drew1) | exact HB.out)))); (case aL => have := LMc4.out; omega); intro v176 w12 ho hb hg hat; rw [← Ny175.out] at ho; have n0_ := Aside0.mk (hb); have n1_ := Aside0.mk (ho); clear HB; clear HO_3; have HB := n0_; have HO177 := n1_; clear n0_ n1_; clear ho hb hg hat; have p178 : 0 ≤ (x4_1 : Int) := of_decide_eq_true (by first | (with_reducible assumption) | assumption); have q178 : x4_1 < (l0.length : Int) := of_decide_eq_true (by first | (with_reducible assumption) | assumption); obtain ⟨ad178, e178, hx178_0, hx178_1, hx178_2⟩ := at_T50 HR0.out x4_1 p178 q178; (try rw [← Nbq7.out] at hx178_2); obtain rfl : ad174 = ad178 := (by injection e178); replace hx178_0 := (HB.out.cell (World.block_lt_of_cell? w _ hx178_0)).trans hx178_0; replace hx178_1 := (HB.out.cell (World.block_lt_of_cell? w _ hx178_1)).trans hx178_1; replace hx178_2 := (HB.out.cell (World.block_lt_of_cell? w _ hx178_2)).trans hx178_2; replace p178 := eq_true p178; replace q178 := eq_true q178; have p179 : 0 ≤ (x4_1 : Int) := of_decide_eq_true (by first | (with_reducible assumption) | assumption); have q179 : x4_1 < (l0.length : Int) := of_decide_eq_true (by first | (with_reducible assumption) | assumption); obtain ⟨ad179, e179, hx179_0, hx179_1, hx179_2⟩ := at_T50 HR0.out x4_1 p179 q179; (try rw [← Nbq7.out] at hx179_2); obtain rfl : ad174 = ad179 := (by injection e179); replace hx179_0 := (HB.out.cell (World.block_lt_of_cell? w _ hx179_0)).trans hx179_0; replace hx179_1 := (HB.out.cell (World.block_lt_of_cell? w _ hx179_1)).trans hx179_1; replace hx179_2 := (HB.out.cell (World.block_lt_of_cell? w _ hx179_2)).trans hx179_2; replace p179 := eq_true p179; replace q179 := eq_true q179))
        go_roundg k1
        case measure => have := HK1.out; omega
        case rel => exact ⟨(y175), (wrap64 (x4_1 + 1)), (by first | rfl | (simp; done) | (simp [*]; done) | (simp [bne_nil_]; done)), H', ⟨by have := HK1.out; omega⟩, ⟨by (with_reducible repeat (first | apply Kd.R_alloc | apply Kd.R_drewN | apply Kd.R_drew)); exact HO177.out⟩, ⟨by repeat (first | (with_reducible first | exact HB.out | apply below_alloc | apply pw_below_drewN | apply below_drew1) | exact HB.out)⟩⟩
     ·rw [if_neg c4] at H
      exact absurd H (by simp)
    ·rw [if_neg c3] at H
     exact absurd H (by simp)
   ·rw [if_neg c2] at H
    have c2b0 : decide (x4_1 < (l0.length : Int)) = false := decide_eq_false c2
    clear c2
    by_cases c13 : (l0.length : Int) ≤ 16
    ·rw [if_pos c13] at H
     have c13b0 : decide ((l0.length : Int) ≤ 16) = true := decide_eq_true c13
     have c13b1 : decide (l0.length ≤ 16) = true := decide_eq_true (by omega)
     clear c13
     replace H := Option.bind_eq_some_iff.mp H
     obtain ⟨t181, A140, H⟩ := H
     replace H : (some t181) = some r := H
     have A14 := Aside0.mk A140
     clear A140
     obtain rfl := Option.some.inj H
     obtain ⟨Ao15, co15, eo15⟩ := Kd.R_slice HO_3.out
     subst eo15
     go_wp2_with (first | (go_at_call 28; (with_reducible refine (corncribref07_Rising.calls k1 _ _ x3_1 t181 _ ?side1 ?side2 A14.out).mono ?_); (case side1 => repeat (first | exact (Kd.R_reads' HO_3.out).2.2 | (with_reducible refine Kd.C_alloc ?_ _) | (with_reducible refine Kd.C_drewN ?_ _) | (with_reducible refine Kd.C_drew ?_))); (case side2 => exact (Kd.R_reads' HO_3.out).2.1); rintro e w' ⟨rfl, ⟨nd, rfl⟩⟩))
     go_ret
     exact ⟨by first | rfl | (simp [errW_none, errW_some] <;> rfl) | (simp [*, errW_none, errW_some] <;> rfl), by repeat (first | (with_reducible first | exact HB.out | apply below_alloc | apply pw_below_drewN | apply below_drew1) | exact HB.out)⟩
    ·rw [if_neg c13] at H
     have c13b0 : decide ((l0.length : Int) ≤ 16) = false := decide_eq_false c13
     have c13b1 : decide (l0.length ≤ 16) = false := decide_eq_false (by omega)
     clear c13
     obtain rfl := Option.some.inj H
     go_wp2
     go_ret
     exact ⟨by first | rfl | (simp [errW_none, errW_some] <;> rfl) | (simp [*, errW_none, errW_some] <;> rfl), by repeat (first | (with_reducible first | exact HB.out | apply below_alloc | apply pw_below_drewN | apply below_drew1) | exact HB.out)⟩
end Go.Proofs.Ytbfjbcaabijpfaa.Al
