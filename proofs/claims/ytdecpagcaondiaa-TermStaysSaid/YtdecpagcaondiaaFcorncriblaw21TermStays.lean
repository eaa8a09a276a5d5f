/- The law TermStays walked: its letters are copied cell by cell. An own text in the printer's form. -/
import Derived.Test.YtdecpagcaondiaaPyb
import Derived.Deep.RegionHeld3
import Derived.IntWalk
namespace Go.Proofs.Ytdecpagcaondiaa.Al
open Go.RowKit Go.Proofs.Ytdecpagcaondiaa.Base Go.Proofs.Ytdecpagcaondiaa.LetSpec Go.Proofs.Ytdecpagcaondiaa.TermSpec Go.Proofs.YtdecpagcaondiaaW.PrintWords Go.Proofs.YtdecpagcaondiaaW.PrintLast Go.Proofs.YtdecpagcaondiaaW.PrintMore
set_option linter.unusedVariables false
set_option linter.unusedSimpArgs false
/-- The cells of a letter, as they lie. -/
def Raw := {cs : List Value // cs.length = 9 ∧ ∀ u ∈ cs, u.oneCell' = true}
def kRaw : Kd Raw where
  sz := 9
  E := []
  K := fun _ x cs => cs = x.1
  M := fun _ _ _ x cs => cs = x.1
  K_len := fun {_ x _} h => by rw [h]; exact x.2.1
  K_one := fun {_ x _} h u hu => by rw [h] at hu; exact x.2.2 u hu
  K_below := fun _ h => h
  K_of_M := fun h => h
  M_mono := fun _ h => h
  M_bound := fun h => h
  M_move := fun _ h => h
  M_lower := fun _ h => h
/-- These cells are these letters, in a world. -/
def Lets (w : World) (l : List S34) (X : List Raw) : Prop := X.length = l.length ∧ ∀ (j : Nat) (x : S34) (c : Raw), l[j]? = some x → X[j]? = some c → k34.K w x c.1
theorem Lets.below {w w1 : World} {l : List S34} {X : List Raw} (h : Lets w l X) (hb : Below w.heap.size w w1) : Lets w1 l X := ⟨h.1, fun j x c hx hc => k34.K_below hb (h.2 j x c hx hc)⟩
theorem Lets.nil (w : World) : Lets w [] [] := ⟨rfl, fun j x c hx _ => by simp at hx⟩
theorem Lets.app {w : World} {l m : List S34} {X Y : List Raw} (h : Lets w l X) (k : Lets w m Y) : Lets w (l ++ m) (X ++ Y) := by
  refine ⟨by rw [List.length_append, List.length_append, h.1, k.1], fun j x c hx hc => ?_⟩
  by_cases hj : j < l.length
  · rw [List.getElem?_append_left hj] at hx
    rw [List.getElem?_append_left (by rw [h.1]; exact hj)] at hc
    exact h.2 j x c hx hc
  · rw [List.getElem?_append_right (by omega)] at hx
    rw [List.getElem?_append_right (by rw [h.1]; omega), h.1] at hc
    exact k.2 _ x c hx hc
theorem set9 {w : World} {g t : Nat} {z0 z1 z2 z3 z4 z5 z6 z7 z8 c0 c1 c2 c3 c4 c5 c6 c7 c8 : Value} (h : w.heap[g]? = some (.cells #[z0, z1, z2, z3, z4, z5, z6, z7, z8] t (0, 0))) : (((((((((w.setCell ⟨g, 0, none⟩ c0).setCell ⟨g, 1, none⟩ c1).setCell ⟨g, 2, none⟩ c2).setCell ⟨g, 3, none⟩ c3).setCell ⟨g, 4, none⟩ c4).setCell ⟨g, 5, none⟩ c5).setCell ⟨g, 6, none⟩ c6).setCell ⟨g, 7, none⟩ c7).setCell ⟨g, 8, none⟩ c8).heap[g]? = some (.cells #[c0, c1, c2, c3, c4, c5, c6, c7, c8] t (0, 0)) := by
  have := blk_set (blk_set (blk_set (blk_set (blk_set (blk_set (blk_set (blk_set (blk_set h 0 c0) 1 c1) 2 c2) 3 c3) 4 c4) 5 c5) 6 c6) 7 c7) 8 c8
  simpa using this
def rawOf {w : World} {x : S34} {cs : List Value} (h : k34.K w x cs) : Raw := ⟨cs, k34.K_len h, k34.K_one h⟩
theorem Lets.one {w : World} {x : S34} {c : Raw} (h : k34.K w x c.1) : Lets w [x] [c] := by
  refine ⟨rfl, fun j y d hy hd => ?_⟩
  cases j with
  | zero => simp at hy hd; subst hy; subst hd; exact h
  | succ j => simp at hy
theorem raw_of {w : World} {A : Option Addr} {l : List S34} (h : Kd.C k34 w A l.length l) : ∃ X : List Raw, ReadsRow (fun (x : Raw) cs => cs = x.1) 9 w A l.length X ∧ Lets w l X := by
  have hex : ∀ i, i < l.length → ∃ c : Raw, ∃ ad, A = some ad ∧ (∃ x, l[i]? = some x ∧ k34.K w x c.1) ∧ ∀ q u, c.1[q]? = some u → w.cell? (ad.add (i * 9 + q)) = some u := fun i hi => by
    obtain ⟨ad, e, hc⟩ := h.2.2 (by omega)
    obtain ⟨cs, h1, h2, h3⟩ := hc i l[i] (List.getElem?_eq_getElem hi)
    exact ⟨⟨cs, h1, k34.K_one h2⟩, ad, e, ⟨_, List.getElem?_eq_getElem hi, h2⟩, h3⟩
  have hlist : ∀ n, n ≤ l.length → ∃ X : List Raw, X.length = n ∧ ∀ i (c : Raw), X[i]? = some c → ∃ ad, A = some ad ∧ (∃ x, l[i]? = some x ∧ k34.K w x c.1) ∧ ∀ q u, c.1[q]? = some u → w.cell? (ad.add (i * 9 + q)) = some u := by
    intro n
    induction n with
    | zero => intro _; exact ⟨[], rfl, fun i c hc => by simp at hc⟩
    | succ n ih =>
      intro hn
      obtain ⟨X, hl, hX⟩ := ih (by omega)
      obtain ⟨c, hc⟩ := hex n (by omega)
      refine ⟨X ++ [c], by simp [hl], fun i c' hc' => ?_⟩
      by_cases hi : i < n
      · rw [List.getElem?_append_left (by omega)] at hc'
        exact hX i c' hc'
      · have hlt := (List.getElem?_eq_some_iff.1 hc').1
        simp at hlt
        obtain rfl : i = n := by omega
        rw [List.getElem?_append_right (by omega), hl] at hc'
        simp at hc'
        exact hc' ▸ hc
  obtain ⟨X, hl, hX⟩ := hlist l.length (Nat.le_refl _)
  refine ⟨X, ⟨hl, h.2.1, fun hp => ?_⟩, hl, fun j x c hx hc => ?_⟩
  · obtain ⟨ad, e, _⟩ := h.2.2 hp
    refine ⟨ad, e, fun j c hj => ⟨c.1, c.2.1, rfl, fun q u hu => ?_⟩⟩
    obtain ⟨ad', e', _, h3⟩ := hX j c hj
    rw [e] at e'; cases e'
    exact h3 q u hu
  · obtain ⟨ad, _, ⟨y, hy, hk⟩, _⟩ := hX j c hc
    rw [hx] at hy; cases hy
    exact hk
theorem C_of_raw {w : World} {base : Nat} {v : Value} {l : List S34} {X : List Raw} (h : kRaw.R 34 w base (fun _ => True) v X) (hl : Lets w l X) : ∃ A c, v = .slice A l.length c ∧ l.length ≤ c ∧ Kd.C k34 w A l.length l := by
  obtain ⟨A, c, e, hle, hC⟩ := Kd.R_reads h
  rw [hl.1] at e hle hC
  refine ⟨A, c, e, hle, rfl, hC.2.1, fun hp => ?_⟩
  obtain ⟨ad, ea, hcell⟩ := hC.2.2 hp
  refine ⟨ad, ea, fun j x hx => ?_⟩
  have hj : j < X.length := by rw [hl.1]; exact (List.getElem?_eq_some_iff.1 hx).1
  obtain ⟨cs, h1, h2, h3⟩ := hcell j X[j] (List.getElem?_eq_getElem hj)
  have h1' : cs = X[j].1 := h2
  subst h1'
  exact ⟨_, h1, hl.2 j x X[j] hx (List.getElem?_eq_getElem hj), h3⟩
theorem raw_keep {w w1 : World} {A : Option Addr} {n : Nat} {X : List Raw} (h : ReadsRow (fun (x : Raw) cs => cs = x.1) 9 w A n X) (hb : Below w.heap.size w w1) : ReadsRow (fun (x : Raw) cs => cs = x.1) 9 w1 A n X := ReadsRow.imp_ h hb (fun _ _ h => h)
theorem raw_apart {W W1 W2 : World} {base g : Nat} {v : Value} {X : List Raw} (h : kRaw.R 34 W base (fun _ => True) v X) (hb : Below W.heap.size W W1) (hg : W.heap.size ≤ g) (hk : KeepBut W1 W2 g none) : kRaw.R 34 W2 base (fun _ => True) v X :=
  Kd.R_step h (fun k _ hlt => (hk.2 k (Nat.lt_of_lt_of_le hlt hb.size) (by omega) (by simp)).trans (hb.block k hlt))
theorem votes_len {a0 a1 : Int} {A2 : Option Addr} {c2 : Nat} {l2 : List S34} {r1 r2 : Int} {w : World} (m : Nat) (hm : m = l2.length) (hr2 : Kd.C k34 w A2 l2.length l2) (hc2 : l2.length ≤ c2) (h : term_Votes.f a0 a1 l2 = some (r1, r2)) :
    Calls Try.prog 10 #[.int .i64 a0, .int .i64 a1, .slice A2 m c2] w fun e w' => e = .returned (.tuple #[.int .i64 r1, .int .i64 r2]) ∧ Below w.heap.size w w' := by
  subst hm
  exact term_Votes.calls a0 a1 A2 c2 l2 r1 r2 w hr2 hc2 h
/-- Of the letters, such as might count. -/
def ownB (nodes txn : Int) (x : S34) : Bool := decide (x.f0 = 4 ∧ x.f3 = txn ∧ x.f1 < nodes)
def corncriblaw21_TermStays.f (a0_0 a0_1 a0_2 : Int) (l1 l2 : List S34) : Option Bool :=
  (corncriblaw21_works.f).bind fun t => if t = true then
    (corncribbook_Among.f a0_0 6).bind fun n => (corncribbook_Among.f a0_2 6).bind fun t =>
      if 0 ≤ n ∧ n ≤ 5 ∧ 0 ≤ t ∧ t ≤ 5 ∧ lenOk l1 = true ∧ lenOk l2 = true ∧ l1.length ≤ 1256584717458 ∧ l2.length ≤ 1256584717458 then
        if 500 < l1.length + l2.length then some true
        else if (votesL (1 + n) (1 + t) l1).2 = 0 ∧ (votesL (1 + n) (1 + t) (l1 ++ l2)).2 = 0 ∧ ((votesL (1 + n) (1 + t) l1).1 = 0 ∨ (votesL (1 + n) (1 + t) l1).1 = (votesL (1 + n) (1 + t) (l1 ++ l2)).1) ∧ (votesL (1 + n) (1 + t) (l1.filter (ownB (1 + n) (1 + t)))).2 = 0 ∧ (votesL (1 + n) (1 + t) (l1.filter (ownB (1 + n) (1 + t)))).1 = (votesL (1 + n) (1 + t) l1).1 then some true else none
      else none
  else none
set_option maxHeartbeats 1000000 in
set_option maxRecDepth 100000 in
theorem stays_zero (p0 p1 p2 n t : Int) (A1 : Option Addr) (c1 : Nat) (l1 : List S34) (A2 : Option Addr) (c2 : Nat) (l2 : List S34) (w : World) (hr1 : Kd.C k34 w A1 l1.length l1) (hc1 : l1.length ≤ c1) (hr2 : Kd.C k34 w A2 l2.length l2) (hc2 : l2.length ≤ c2) (hw : corncriblaw21_works.f = some true)
    (hn : corncribbook_Among.f p0 6 = some n) (ht : corncribbook_Among.f p2 6 = some t) (n0 : 0 ≤ n) (n1 : n ≤ 5) (t0 : 0 ≤ t) (t1 : t ≤ 5) (z1 : lenOk l1 = true) (z2 : lenOk l2 = true) (z : l1.length + l2.length ≤ 500)
    (va : term_Votes.f (1 + n) (1 + t) l1 = some (0, 0)) (b : Int) (vb : term_Votes.f (1 + n) (1 + t) (l1 ++ l2) = some (b, 0)) (vc : term_Votes.f (1 + n) (1 + t) (l1.filter (ownB (1 + n) (1 + t))) = some (0, 0)) :
    Calls Try.prog 3 #[.agg #[.int .i64 p0, .int .i64 p1, .int .i64 p2], .slice A1 l1.length c1, .slice A2 l2.length c2] w fun e w' => e = .returned (.bool true) ∧ Below w.heap.size w w' := by
  have hu23 := Try.underlying23
  have hu24 := Try.underlying24
  have hu34 := Try.underlying34
  have HR1 := Aside0.mk hr1
  have HR2 := Aside0.mk hr2
  have HC1 := Aside0.mk hc1
  have HC2 := Aside0.mk hc2
  have HW := Aside0.mk hw
  have HN := Aside0.mk hn
  have HT := Aside0.mk ht
  have VA := Aside0.mk va
  have VB := Aside0.mk vb
  have VC := Aside0.mk vc
  have ZZ := Aside0.mk z
  have d1 : decide (500 < (l1.length : Int) + (l2.length : Int)) = false := decide_eq_false (by omega)
  have m1 : (l1.length : Int) ≤ 500 := by omega
  have m2 : (l2.length : Int) ≤ 500 := by omega
  clear hr1 hr2 hc1 hc2 hw hn ht va vb vc z z1 z2
  have HB := Aside0.mk (Below.refl w.heap.size w)
  have W0 : Aside0 (wrap64 (1 + n) = 1 + n) := ⟨wrap_id (by omega) (by omega)⟩
  go_enter Try.func3, Try.ntmps3
  go_wp2_with (first | ((with_reducible refine gate_dst (N := 3) rfl ?_); refine box_event ?hg (N := 3) ?hd (cs := #[.int .i64 p0, .int .i64 p1, .int .i64 p2]) (t := 23) ?hr ?_; (case hd => rfl); (case hg => rfl); (case hr => first | (go_simp; done) | (go_simp; rfl)); intro gw hgw w1 hbox hb; have HB1 := Aside0.mk hb; have BW := Aside0.mk hbox; clear hgw hb hbox) | (go_at_call 8; refine (corncriblaw21_works.calls true _ HW.out).mono ?_; rintro e w2 ⟨rfl, hb⟩; have HB2 := Aside0.mk (below_step (w := w) HB1.out hb); have BW2 := Aside0.mk (blk_below BW.out hb); clear hb))
  have hp0 : w2.cell? ⟨gw, 0, none⟩ = some (.int .i64 p0) := (blk_cell BW2.out 0).trans rfl
  have hp2 : w2.cell? ⟨gw, 2, none⟩ = some (.int .i64 p2) := (blk_cell BW2.out 2).trans rfl
  have q1 : IntKind.i64.wrap (1 + n) = 1 + n := IntWalk.i64_in _ (by omega)
  have q2 : IntKind.i64.wrap (1 + t) = 1 + t := IntWalk.i64_in _ (by omega)
  go_region_held3 (fun W => W.cell? ⟨gw, 0, none⟩ = some (.int .i64 p0) ∧ W.cell? ⟨gw, 2, none⟩ = some (.int .i64 p2)) (go_keep) (first | (go_at_call 9; (with_reducible refine (corncribbook_Among.calls p0 6 n _ HN.out).mono ?_); rintro e w' ⟨rfl, hd⟩; obtain ⟨nd, rfl⟩ := hd.out; clear hd) | (go_at_call 9; (with_reducible refine (corncribbook_Among.calls p2 6 t _ HT.out).mono ?_); rintro e w' ⟨rfl, hd⟩; obtain ⟨nd, rfl⟩ := hd.out; clear hd))
  all_goals generalize eW : World.drewN w2 _ = w3
  all_goals have HB3 : Aside0 (Below w.heap.size w w3) := ⟨by rw [← eW]; exact pw_below_drewN HB2.out _⟩
  all_goals clear eW hp0 hp2 q1 q2
  obtain ⟨X1, rr1, lx1⟩ := raw_of HR1.out
  obtain ⟨X2, rr2, lx2⟩ := raw_of HR2.out
  have RR1 := Aside0.mk rr1
  have RR2 := Aside0.mk rr2
  have LX1 := Aside0.mk lx1
  have LX2 := Aside0.mk lx2
  clear rr1 rr2 lx1 lx2
  go_wp2_with (first | (go_at_call 10; (with_reducible refine (term_Votes.calls (1 + n) (1 + t) _ _ l1 0 0 w3 (Kd.C_below HR1.out HB3.out) HC1.out VA.out).mono ?_); rintro e w4 ⟨rfl, hb⟩; have HB4 := Aside0.mk (below_step (w := w) HB3.out hb); clear hb) | (go_at_call 10; (with_reducible refine (votes_len (l1.length + l2.length) List.length_append.symm HC7.out HL7.out VB.out).mono ?_); rintro e w8 ⟨rfl, hb⟩; have HB8 := Aside0.mk (below_step (w := w) HB7.out hb); clear hb) | ((with_reducible refine gate_dst (N := 44) rfl ?_); refine Kd.R_lit kRaw (w0 := w) w.heap.size 34 ?hg (N := 44) ?hd (xs := ([] : List Raw)) (inner := []) (ok := fun _ => True) (okp := fun _ => True) ?hr (Reps.none _ _) (fun _ h => h) trivial HB4.out HB4.out.size (by simp) ?_; (case hd => rfl); (case hg => rfl); (case hr => first | (go_simp; done) | (go_simp; rfl)); intro v44 w5 ho hb hg hat; have HO5 := Aside0.mk ho; have HB5 := Aside0.mk hb; clear ho hb hg hat) | ((with_reducible refine gate_builtin (b := .append) (xs := #[.tmp 44, .tmp 45]) rfl ?_); at_builtin; refine Kd.R_append_rows kRaw (w0 := w) w.heap.size rfl (.tmp 44) (.tmp 45) 24 34 (.agg #[.int .i64 0, .int .i64 0, .int .i64 0, .int .i64 0, .int .i64 0, .int .i64 0, .string ⟨#[]⟩, .slice none 0 0, .slice none 0 0]) 112 rfl Try.underlying24 info34 rfl (by decide) (by omega) v44 [] X1 _ _ _ (fun _ => True) (fun _ => False) rfl rfl HO5.out ?aR (fun _ _ h => h) (fun _ h => h.elim) (fun _ _ => trivial) HB5.out HB5.out.size ?aL ?_; (case aR => exact raw_keep RR1.out HB5.out); (case aL => have := ZZ.out; simp; omega); intro v46 w6 ho hb hg hat; have HO6 := Aside0.mk ho; have HB6 := Aside0.mk hb; clear ho hb hg hat) | ((with_reducible refine gate_builtin (b := .append) (xs := #[.tmp 46, .tmp 47]) rfl ?_); at_builtin; refine Kd.R_append_rows kRaw (w0 := w) w.heap.size rfl (.tmp 46) (.tmp 47) 24 34 (.agg #[.int .i64 0, .int .i64 0, .int .i64 0, .int .i64 0, .int .i64 0, .int .i64 0, .string ⟨#[]⟩, .slice none 0 0, .slice none 0 0]) 112 rfl Try.underlying24 info34 rfl (by decide) (by omega) v46 X1 X2 _ _ _ (fun _ => True) (fun _ => False) rfl rfl HO6.out ?aR (fun _ _ h => h) (fun _ h => h.elim) (fun _ _ => trivial) HB6.out HB6.out.size ?aL ?_; (case aR => exact raw_keep RR2.out HB6.out); (case aL => have := ZZ.out; have := LX1.out.1; omega); intro v48 w7 ho hb hg hat; obtain ⟨A7, c7, e7, hle7, hC7⟩ := C_of_raw ho ((LX1.out.app LX2.out).below hb); subst e7; have HB7 := Aside0.mk hb; have HL7 := Aside0.mk hle7; have HC7 := Aside0.mk hC7; clear ho hb hg hat hle7 hC7))
  have HN0 := Aside0.mk (Kd.R_nil kRaw 34 w8 w.heap.size (fun _ => True))
  go_loopw [13, 69] (fun v13 v69 wr => ∃ (i : Nat) (x : Int) (X : List Raw), v69 = .int .i64 x ∧ Aside0 (x = (i : Int)) ∧ Aside0 (i ≤ l1.length) ∧ Aside0 (Below w.heap.size w wr) ∧ Aside0 (kRaw.R 34 wr w.heap.size (fun _ => True) v13 X) ∧ Aside0 (Lets w ((l1.take i).filter (ownB (1 + n) (1 + t))) X)) (fun _ v69 _ => l1.length - (intOf v69).toNat)
  case atStart => exact ⟨0, 0, [], rfl, ⟨rfl⟩, ⟨Nat.zero_le _⟩, HB8, HN0, ⟨by rw [List.take_zero]; exact Lets.nil w⟩⟩
  case round =>
    obtain ⟨i, x, X, rfl, hx, hi, HBr, HO, HL⟩ := hrel
    clear HN0 HB8 HB7 HC7 HL7 HO6 HB6 HO5 HB5 HB4 HB3 HB2 BW2 BW HB1 RR1 RR2 LX1 LX2 HB
    have hxi := hx.out
    have hile := hi.out
    by_cases hlt : i < l1.length
    · have k1 : decide (x < (l1.length : Int)) = true := decide_eq_true (by omega)
      have b0 : 0 ≤ x := by omega
      have b1 : x < (l1.length : Int) := by omega
      have b2 : x ≤ 500 := by omega
      have XL : Aside0 (X.length ≤ 500) := ⟨by have := HL.out.1; have := List.length_filter_le (ownB (1 + n) (1 + t)) (l1.take i); rw [List.length_take] at this; omega⟩
      obtain ⟨ad, A7', c7', A8', c8', eA, hx0, hx1, hx2, hx3, hx4, hx5, hx6, hx7, hx8, l7, g7, l8, g8⟩ := at_T34 HR1.out x b0 b1
      have hrd : rd_T34 l1 x = l1[i] := by rw [hxi]; simp [rd_T34, List.getD_eq_getElem?_getD, hlt]
      have hst : (l1.take (i + 1)).filter (ownB (1 + n) (1 + t)) = (l1.take i).filter (ownB (1 + n) (1 + t)) ++ (if ownB (1 + n) (1 + t) (rd_T34 l1 x) = true then [rd_T34 l1 x] else []) := by
        rw [hrd, List.take_succ_eq_append_getElem hlt, List.filter_append]
        congr 1
        by_cases hq : ownB (1 + n) (1 + t) l1[i] = true
        · rw [if_pos hq, List.filter_cons_of_pos hq, List.filter_nil]
        · rw [if_neg hq, List.filter_cons_of_neg hq, List.filter_nil]
      have hkk := k34_mk w (rd_T34 l1 x) l7 g7 l8 g8
      generalize rd_T34 l1 x = y at *
      have HST := Aside0.mk hst
      have HKK := Aside0.mk hkk
      replace hx0 := (HBr.out.cell (World.block_lt_of_cell? w _ hx0)).trans hx0
      replace hx1 := (HBr.out.cell (World.block_lt_of_cell? w _ hx1)).trans hx1
      replace hx2 := (HBr.out.cell (World.block_lt_of_cell? w _ hx2)).trans hx2
      replace hx3 := (HBr.out.cell (World.block_lt_of_cell? w _ hx3)).trans hx3
      replace hx4 := (HBr.out.cell (World.block_lt_of_cell? w _ hx4)).trans hx4
      replace hx5 := (HBr.out.cell (World.block_lt_of_cell? w _ hx5)).trans hx5
      replace hx6 := (HBr.out.cell (World.block_lt_of_cell? w _ hx6)).trans hx6
      replace hx7 := (HBr.out.cell (World.block_lt_of_cell? w _ hx7)).trans hx7
      replace hx8 := (HBr.out.cell (World.block_lt_of_cell? w _ hx8)).trans hx8
      have HI := Aside0.mk (show x + 1 = ((i + 1 : Nat) : Int) from by omega)
      have HLE := Aside0.mk (show i + 1 ≤ l1.length from hlt)
      have HM := Aside0.mk (show l1.length - (intOf (.int .i64 (x + 1))).toNat < l1.length - (intOf (.int .i64 x)).toNat from by simp [intOf]; omega)
      clear hst hkk hrd l7 g7 l8 g8 hxi hile hlt
      subst eA
      by_cases q1 : y.f0 = 4
      · have f1 : (y.f0 == 4) = true := beq_iff_eq.2 q1
        by_cases q2 : y.f3 = 1 + t
        · have f2 : (y.f3 == 1 + t) = true := beq_iff_eq.2 q2
          by_cases q3 : y.f1 < 1 + n
          · have f3 : decide (y.f1 < 1 + n) = true := decide_eq_true q3
            have HL1 := Aside0.mk (show Lets w ((l1.take (i + 1)).filter (ownB (1 + n) (1 + t))) (X ++ [rawOf HKK.out]) from by
              rw [HST.out, if_pos (show ownB (1 + n) (1 + t) y = true from decide_eq_true ⟨q1, q2, q3⟩)]
              exact HL.out.app (Lets.one HKK.out))
            clear q1 q2 q3
            go_upto_region 15 with (first | ((with_reducible refine gate_dst (N := 15) rfl ?_); refine box_event ?hg (N := 15) ?hd (cs := #[.int .i64 0, .int .i64 0, .int .i64 0, .int .i64 0, .int .i64 0, .int .i64 0, .string (⟨#[]⟩ : ByteArray), .slice none 0 0, .slice none 0 0]) (t := 34) ?hr ?_; (case hd => rfl); (case hg => rfl); (case hr => first | (go_simp; done) | (go_simp; rfl)); intro gb hgb wb hbox hb; have GB := Aside0.mk (Nat.le_of_eq hgb.symm); have GE : Aside0 (w.heap.size ≤ gb) := ⟨by rw [hgb]; exact HBr.out.size⟩; have BX := Aside0.mk hbox; have BB := Aside0.mk hb; have HBb := Aside0.mk (below_step (w := w) HBr.out hb); have hz0 := (blk_cell hbox 0).trans rfl; have hzf0 := blk_frozen hbox 0; replace hx0 := (hb.cell (World.block_lt_of_cell? wr _ hx0)).trans hx0; have hz1 := (blk_cell hbox 1).trans rfl; have hzf1 := blk_frozen hbox 1; replace hx1 := (hb.cell (World.block_lt_of_cell? wr _ hx1)).trans hx1; have hz2 := (blk_cell hbox 2).trans rfl; have hzf2 := blk_frozen hbox 2; replace hx2 := (hb.cell (World.block_lt_of_cell? wr _ hx2)).trans hx2; have hz3 := (blk_cell hbox 3).trans rfl; have hzf3 := blk_frozen hbox 3; replace hx3 := (hb.cell (World.block_lt_of_cell? wr _ hx3)).trans hx3; have hz4 := (blk_cell hbox 4).trans rfl; have hzf4 := blk_frozen hbox 4; replace hx4 := (hb.cell (World.block_lt_of_cell? wr _ hx4)).trans hx4; have hz5 := (blk_cell hbox 5).trans rfl; have hzf5 := blk_frozen hbox 5; replace hx5 := (hb.cell (World.block_lt_of_cell? wr _ hx5)).trans hx5; have hz6 := (blk_cell hbox 6).trans rfl; have hzf6 := blk_frozen hbox 6; replace hx6 := (hb.cell (World.block_lt_of_cell? wr _ hx6)).trans hx6; have hz7 := (blk_cell hbox 7).trans rfl; have hzf7 := blk_frozen hbox 7; replace hx7 := (hb.cell (World.block_lt_of_cell? wr _ hx7)).trans hx7; have hz8 := (blk_cell hbox 8).trans rfl; have hzf8 := blk_frozen hbox 8; replace hx8 := (hb.cell (World.block_lt_of_cell? wr _ hx8)).trans hx8; clear hgb hb hbox))
            have HB1 : Aside0 (Below w.heap.size w (((((((((wb.setCell ⟨gb, 0, none⟩ (.int .i64 y.f0)).setCell ⟨gb, 1, none⟩ (.int .i64 y.f1)).setCell ⟨gb, 2, none⟩ (.int .i64 y.f2)).setCell ⟨gb, 3, none⟩ (.int .i64 y.f3)).setCell ⟨gb, 4, none⟩ (.int .i64 y.f4)).setCell ⟨gb, 5, none⟩ (.int .i64 y.f5)).setCell ⟨gb, 6, none⟩ (.string y.f6)).setCell ⟨gb, 7, none⟩ (.slice A7' y.f7.length c7')).setCell ⟨gb, 8, none⟩ (.slice A8' y.f8.length c8'))) := ⟨by (with_reducible repeat (first | exact HBb.out | refine below_set ?_ GE.out))⟩
            have HO1 : Aside0 (kRaw.R 34 (((((((((wb.setCell ⟨gb, 0, none⟩ (.int .i64 y.f0)).setCell ⟨gb, 1, none⟩ (.int .i64 y.f1)).setCell ⟨gb, 2, none⟩ (.int .i64 y.f2)).setCell ⟨gb, 3, none⟩ (.int .i64 y.f3)).setCell ⟨gb, 4, none⟩ (.int .i64 y.f4)).setCell ⟨gb, 5, none⟩ (.int .i64 y.f5)).setCell ⟨gb, 6, none⟩ (.string y.f6)).setCell ⟨gb, 7, none⟩ (.slice A7' y.f7.length c7')).setCell ⟨gb, 8, none⟩ (.slice A8' y.f8.length c8')) w.heap.size (fun _ => True) _ X) := ⟨raw_apart HO.out BB.out GB.out (by (with_reducible repeat (first | exact KeepBut.refl _ _ _ | refine KeepBut.set_ ?_ _ _)))⟩
            have BK1 : Aside0 ((((((((((wb.setCell ⟨gb, 0, none⟩ (.int .i64 y.f0)).setCell ⟨gb, 1, none⟩ (.int .i64 y.f1)).setCell ⟨gb, 2, none⟩ (.int .i64 y.f2)).setCell ⟨gb, 3, none⟩ (.int .i64 y.f3)).setCell ⟨gb, 4, none⟩ (.int .i64 y.f4)).setCell ⟨gb, 5, none⟩ (.int .i64 y.f5)).setCell ⟨gb, 6, none⟩ (.string y.f6)).setCell ⟨gb, 7, none⟩ (.slice A7' y.f7.length c7')).setCell ⟨gb, 8, none⟩ (.slice A8' y.f8.length c8') : World).heap[gb]? = some (.cells #[.int .i64 y.f0, .int .i64 y.f1, .int .i64 y.f2, .int .i64 y.f3, .int .i64 y.f4, .int .i64 y.f5, .string y.f6, .slice A7' y.f7.length c7', .slice A8' y.f8.length c8'] 34 (0, 0))) := ⟨set9 BX.out⟩
            generalize eW : (((((((((wb.setCell ⟨gb, 0, none⟩ (.int .i64 y.f0)).setCell ⟨gb, 1, none⟩ (.int .i64 y.f1)).setCell ⟨gb, 2, none⟩ (.int .i64 y.f2)).setCell ⟨gb, 3, none⟩ (.int .i64 y.f3)).setCell ⟨gb, 4, none⟩ (.int .i64 y.f4)).setCell ⟨gb, 5, none⟩ (.int .i64 y.f5)).setCell ⟨gb, 6, none⟩ (.string y.f6)).setCell ⟨gb, 7, none⟩ (.slice A7' y.f7.length c7')).setCell ⟨gb, 8, none⟩ (.slice A8' y.f8.length c8') : World) = W1 at HB1 HO1 BK1 ⊢
            clear eW hz0 hzf0 hx0 hz1 hzf1 hx1 hz2 hzf2 hx2 hz3 hzf3 hx3 hz4 hzf4 hx4 hz5 hzf5 hx5 hz6 hzf6 hx6 hz7 hzf7 hx7 hz8 hzf8 hx8
            have hy0 : W1.cell? ⟨gb, 0, none⟩ = some (.int .i64 y.f0) := (blk_cell BK1.out 0).trans rfl
            have hy1 : W1.cell? ⟨gb, 1, none⟩ = some (.int .i64 y.f1) := (blk_cell BK1.out 1).trans rfl
            have hy2 : W1.cell? ⟨gb, 2, none⟩ = some (.int .i64 y.f2) := (blk_cell BK1.out 2).trans rfl
            have hy3 : W1.cell? ⟨gb, 3, none⟩ = some (.int .i64 y.f3) := (blk_cell BK1.out 3).trans rfl
            have hy4 : W1.cell? ⟨gb, 4, none⟩ = some (.int .i64 y.f4) := (blk_cell BK1.out 4).trans rfl
            have hy5 : W1.cell? ⟨gb, 5, none⟩ = some (.int .i64 y.f5) := (blk_cell BK1.out 5).trans rfl
            have hy6 : W1.cell? ⟨gb, 6, none⟩ = some (.string y.f6) := (blk_cell BK1.out 6).trans rfl
            have hy7 : W1.cell? ⟨gb, 7, none⟩ = some (.slice A7' y.f7.length c7') := (blk_cell BK1.out 7).trans rfl
            have hy8 : W1.cell? ⟨gb, 8, none⟩ = some (.slice A8' y.f8.length c8') := (blk_cell BK1.out 8).trans rfl
            go_wp2_with (((with_reducible refine gate_builtin (b := .append) (xs := #[.tmp 88, .tmp 90]) rfl ?_); at_builtin; refine Kd.R_append kRaw (w0 := w) w.heap.size rfl (.tmp 88) (.tmp 90) 24 34 (.agg #[.int .i64 0, .int .i64 0, .int .i64 0, .int .i64 0, .int .i64 0, .int .i64 0, .string ⟨#[]⟩, .slice none 0 0, .slice none 0 0]) 112 rfl Try.underlying24 info34 rfl (by decide) (by omega) _ X (rawOf HKK.out) [.int .i64 y.f0, .int .i64 y.f1, .int .i64 y.f2, .int .i64 y.f3, .int .i64 y.f4, .int .i64 y.f5, .string y.f6, .slice A7' y.f7.length c7', .slice A8' y.f8.length c8'] (fun _ => True) (fun _ => False) rfl rfl ?aP (fun _ hk => hk.elim) (fun _ _ => trivial) HO1.out HB1.out HB1.out.size ?aL ?_; (case aP => exact rfl); (case aL => have := XL.out; omega); intro v91 w91 ho hb hg hat; have HO91 := Aside0.mk ho; have HB91 := Aside0.mk hb; clear ho hb hg hat))
            exact ⟨⟨i + 1, x + 1, X ++ [rawOf HKK.out], rfl, HI, HLE, HB91, HO91, HL1⟩, HM.out⟩
          · have f3 : decide (y.f1 < 1 + n) = false := decide_eq_false q3
            have HL1 := Aside0.mk (show Lets w ((l1.take (i + 1)).filter (ownB (1 + n) (1 + t))) X from by
              rw [HST.out, if_neg (fun h => q3 (of_decide_eq_true h).2.2), List.append_nil]
              exact HL.out)
            clear q1 q2 q3
            go_wp2_with (first | ((with_reducible refine gate_dst (N := 15) rfl ?_); refine box_event ?hg (N := 15) ?hd (cs := #[.int .i64 0, .int .i64 0, .int .i64 0, .int .i64 0, .int .i64 0, .int .i64 0, .string (⟨#[]⟩ : ByteArray), .slice none 0 0, .slice none 0 0]) (t := 34) ?hr ?_; (case hd => rfl); (case hg => rfl); (case hr => first | (go_simp; done) | (go_simp; rfl)); intro gb hgb wb hbox hb; have GB := Aside0.mk (Nat.le_of_eq hgb.symm); have GE : Aside0 (w.heap.size ≤ gb) := ⟨by rw [hgb]; exact HBr.out.size⟩; have BX := Aside0.mk hbox; have BB := Aside0.mk hb; have HBb := Aside0.mk (below_step (w := w) HBr.out hb); have hz0 := (blk_cell hbox 0).trans rfl; have hzf0 := blk_frozen hbox 0; replace hx0 := (hb.cell (World.block_lt_of_cell? wr _ hx0)).trans hx0; have hz1 := (blk_cell hbox 1).trans rfl; have hzf1 := blk_frozen hbox 1; replace hx1 := (hb.cell (World.block_lt_of_cell? wr _ hx1)).trans hx1; have hz2 := (blk_cell hbox 2).trans rfl; have hzf2 := blk_frozen hbox 2; replace hx2 := (hb.cell (World.block_lt_of_cell? wr _ hx2)).trans hx2; have hz3 := (blk_cell hbox 3).trans rfl; have hzf3 := blk_frozen hbox 3; replace hx3 := (hb.cell (World.block_lt_of_cell? wr _ hx3)).trans hx3; have hz4 := (blk_cell hbox 4).trans rfl; have hzf4 := blk_frozen hbox 4; replace hx4 := (hb.cell (World.block_lt_of_cell? wr _ hx4)).trans hx4; have hz5 := (blk_cell hbox 5).trans rfl; have hzf5 := blk_frozen hbox 5; replace hx5 := (hb.cell (World.block_lt_of_cell? wr _ hx5)).trans hx5; have hz6 := (blk_cell hbox 6).trans rfl; have hzf6 := blk_frozen hbox 6; replace hx6 := (hb.cell (World.block_lt_of_cell? wr _ hx6)).trans hx6; have hz7 := (blk_cell hbox 7).trans rfl; have hzf7 := blk_frozen hbox 7; replace hx7 := (hb.cell (World.block_lt_of_cell? wr _ hx7)).trans hx7; have hz8 := (blk_cell hbox 8).trans rfl; have hzf8 := blk_frozen hbox 8; replace hx8 := (hb.cell (World.block_lt_of_cell? wr _ hx8)).trans hx8; clear hgb hb hbox))
            have HB1 : Aside0 (Below w.heap.size w (((((((((wb.setCell ⟨gb, 0, none⟩ (.int .i64 y.f0)).setCell ⟨gb, 1, none⟩ (.int .i64 y.f1)).setCell ⟨gb, 2, none⟩ (.int .i64 y.f2)).setCell ⟨gb, 3, none⟩ (.int .i64 y.f3)).setCell ⟨gb, 4, none⟩ (.int .i64 y.f4)).setCell ⟨gb, 5, none⟩ (.int .i64 y.f5)).setCell ⟨gb, 6, none⟩ (.string y.f6)).setCell ⟨gb, 7, none⟩ (.slice A7' y.f7.length c7')).setCell ⟨gb, 8, none⟩ (.slice A8' y.f8.length c8'))) := ⟨by (with_reducible repeat (first | exact HBb.out | refine below_set ?_ GE.out))⟩
            have HO1 : Aside0 (kRaw.R 34 (((((((((wb.setCell ⟨gb, 0, none⟩ (.int .i64 y.f0)).setCell ⟨gb, 1, none⟩ (.int .i64 y.f1)).setCell ⟨gb, 2, none⟩ (.int .i64 y.f2)).setCell ⟨gb, 3, none⟩ (.int .i64 y.f3)).setCell ⟨gb, 4, none⟩ (.int .i64 y.f4)).setCell ⟨gb, 5, none⟩ (.int .i64 y.f5)).setCell ⟨gb, 6, none⟩ (.string y.f6)).setCell ⟨gb, 7, none⟩ (.slice A7' y.f7.length c7')).setCell ⟨gb, 8, none⟩ (.slice A8' y.f8.length c8')) w.heap.size (fun _ => True) _ X) := ⟨raw_apart HO.out BB.out GB.out (by (with_reducible repeat (first | exact KeepBut.refl _ _ _ | refine KeepBut.set_ ?_ _ _)))⟩
            go_roundw
            case rel => exact ⟨i + 1, x + 1, X, rfl, HI, HLE, HB1, HO1, HL1⟩
            case measure => exact HM.out
        · have f2 : (y.f3 == 1 + t) = false := beq_eq_false_iff_ne.2 q2
          have HL1 := Aside0.mk (show Lets w ((l1.take (i + 1)).filter (ownB (1 + n) (1 + t))) X from by
            rw [HST.out, if_neg (fun h => q2 (of_decide_eq_true h).2.1), List.append_nil]
            exact HL.out)
          clear q1 q2
          go_wp2_with (first | ((with_reducible refine gate_dst (N := 15) rfl ?_); refine box_event ?hg (N := 15) ?hd (cs := #[.int .i64 0, .int .i64 0, .int .i64 0, .int .i64 0, .int .i64 0, .int .i64 0, .string (⟨#[]⟩ : ByteArray), .slice none 0 0, .slice none 0 0]) (t := 34) ?hr ?_; (case hd => rfl); (case hg => rfl); (case hr => first | (go_simp; done) | (go_simp; rfl)); intro gb hgb wb hbox hb; have GB := Aside0.mk (Nat.le_of_eq hgb.symm); have GE : Aside0 (w.heap.size ≤ gb) := ⟨by rw [hgb]; exact HBr.out.size⟩; have BX := Aside0.mk hbox; have BB := Aside0.mk hb; have HBb := Aside0.mk (below_step (w := w) HBr.out hb); have hz0 := (blk_cell hbox 0).trans rfl; have hzf0 := blk_frozen hbox 0; replace hx0 := (hb.cell (World.block_lt_of_cell? wr _ hx0)).trans hx0; have hz1 := (blk_cell hbox 1).trans rfl; have hzf1 := blk_frozen hbox 1; replace hx1 := (hb.cell (World.block_lt_of_cell? wr _ hx1)).trans hx1; have hz2 := (blk_cell hbox 2).trans rfl; have hzf2 := blk_frozen hbox 2; replace hx2 := (hb.cell (World.block_lt_of_cell? wr _ hx2)).trans hx2; have hz3 := (blk_cell hbox 3).trans rfl; have hzf3 := blk_frozen hbox 3; replace hx3 := (hb.cell (World.block_lt_of_cell? wr _ hx3)).trans hx3; have hz4 := (blk_cell hbox 4).trans rfl; have hzf4 := blk_frozen hbox 4; replace hx4 := (hb.cell (World.block_lt_of_cell? wr _ hx4)).trans hx4; have hz5 := (blk_cell hbox 5).trans rfl; have hzf5 := blk_frozen hbox 5; replace hx5 := (hb.cell (World.block_lt_of_cell? wr _ hx5)).trans hx5; have hz6 := (blk_cell hbox 6).trans rfl; have hzf6 := blk_frozen hbox 6; replace hx6 := (hb.cell (World.block_lt_of_cell? wr _ hx6)).trans hx6; have hz7 := (blk_cell hbox 7).trans rfl; have hzf7 := blk_frozen hbox 7; replace hx7 := (hb.cell (World.block_lt_of_cell? wr _ hx7)).trans hx7; have hz8 := (blk_cell hbox 8).trans rfl; have hzf8 := blk_frozen hbox 8; replace hx8 := (hb.cell (World.block_lt_of_cell? wr _ hx8)).trans hx8; clear hgb hb hbox))
          have HB1 : Aside0 (Below w.heap.size w (((((((((wb.setCell ⟨gb, 0, none⟩ (.int .i64 y.f0)).setCell ⟨gb, 1, none⟩ (.int .i64 y.f1)).setCell ⟨gb, 2, none⟩ (.int .i64 y.f2)).setCell ⟨gb, 3, none⟩ (.int .i64 y.f3)).setCell ⟨gb, 4, none⟩ (.int .i64 y.f4)).setCell ⟨gb, 5, none⟩ (.int .i64 y.f5)).setCell ⟨gb, 6, none⟩ (.string y.f6)).setCell ⟨gb, 7, none⟩ (.slice A7' y.f7.length c7')).setCell ⟨gb, 8, none⟩ (.slice A8' y.f8.length c8'))) := ⟨by (with_reducible repeat (first | exact HBb.out | refine below_set ?_ GE.out))⟩
          have HO1 : Aside0 (kRaw.R 34 (((((((((wb.setCell ⟨gb, 0, none⟩ (.int .i64 y.f0)).setCell ⟨gb, 1, none⟩ (.int .i64 y.f1)).setCell ⟨gb, 2, none⟩ (.int .i64 y.f2)).setCell ⟨gb, 3, none⟩ (.int .i64 y.f3)).setCell ⟨gb, 4, none⟩ (.int .i64 y.f4)).setCell ⟨gb, 5, none⟩ (.int .i64 y.f5)).setCell ⟨gb, 6, none⟩ (.string y.f6)).setCell ⟨gb, 7, none⟩ (.slice A7' y.f7.length c7')).setCell ⟨gb, 8, none⟩ (.slice A8' y.f8.length c8')) w.heap.size (fun _ => True) _ X) := ⟨raw_apart HO.out BB.out GB.out (by (with_reducible repeat (first | exact KeepBut.refl _ _ _ | refine KeepBut.set_ ?_ _ _)))⟩
          go_roundw
          case rel => exact ⟨i + 1, x + 1, X, rfl, HI, HLE, HB1, HO1, HL1⟩
          case measure => exact HM.out
      · have f1 : (y.f0 == 4) = false := beq_eq_false_iff_ne.2 q1
        have HL1 := Aside0.mk (show Lets w ((l1.take (i + 1)).filter (ownB (1 + n) (1 + t))) X from by
          rw [HST.out, if_neg (fun h => q1 (of_decide_eq_true h).1), List.append_nil]
          exact HL.out)
        clear q1
        go_wp2_with (first | ((with_reducible refine gate_dst (N := 15) rfl ?_); refine box_event ?hg (N := 15) ?hd (cs := #[.int .i64 0, .int .i64 0, .int .i64 0, .int .i64 0, .int .i64 0, .int .i64 0, .string (⟨#[]⟩ : ByteArray), .slice none 0 0, .slice none 0 0]) (t := 34) ?hr ?_; (case hd => rfl); (case hg => rfl); (case hr => first | (go_simp; done) | (go_simp; rfl)); intro gb hgb wb hbox hb; have GB := Aside0.mk (Nat.le_of_eq hgb.symm); have GE : Aside0 (w.heap.size ≤ gb) := ⟨by rw [hgb]; exact HBr.out.size⟩; have BX := Aside0.mk hbox; have BB := Aside0.mk hb; have HBb := Aside0.mk (below_step (w := w) HBr.out hb); have hz0 := (blk_cell hbox 0).trans rfl; have hzf0 := blk_frozen hbox 0; replace hx0 := (hb.cell (World.block_lt_of_cell? wr _ hx0)).trans hx0; have hz1 := (blk_cell hbox 1).trans rfl; have hzf1 := blk_frozen hbox 1; replace hx1 := (hb.cell (World.block_lt_of_cell? wr _ hx1)).trans hx1; have hz2 := (blk_cell hbox 2).trans rfl; have hzf2 := blk_frozen hbox 2; replace hx2 := (hb.cell (World.block_lt_of_cell? wr _ hx2)).trans hx2; have hz3 := (blk_cell hbox 3).trans rfl; have hzf3 := blk_frozen hbox 3; replace hx3 := (hb.cell (World.block_lt_of_cell? wr _ hx3)).trans hx3; have hz4 := (blk_cell hbox 4).trans rfl; have hzf4 := blk_frozen hbox 4; replace hx4 := (hb.cell (World.block_lt_of_cell? wr _ hx4)).trans hx4; have hz5 := (blk_cell hbox 5).trans rfl; have hzf5 := blk_frozen hbox 5; replace hx5 := (hb.cell (World.block_lt_of_cell? wr _ hx5)).trans hx5; have hz6 := (blk_cell hbox 6).trans rfl; have hzf6 := blk_frozen hbox 6; replace hx6 := (hb.cell (World.block_lt_of_cell? wr _ hx6)).trans hx6; have hz7 := (blk_cell hbox 7).trans rfl; have hzf7 := blk_frozen hbox 7; replace hx7 := (hb.cell (World.block_lt_of_cell? wr _ hx7)).trans hx7; have hz8 := (blk_cell hbox 8).trans rfl; have hzf8 := blk_frozen hbox 8; replace hx8 := (hb.cell (World.block_lt_of_cell? wr _ hx8)).trans hx8; clear hgb hb hbox))
        have HB1 : Aside0 (Below w.heap.size w (((((((((wb.setCell ⟨gb, 0, none⟩ (.int .i64 y.f0)).setCell ⟨gb, 1, none⟩ (.int .i64 y.f1)).setCell ⟨gb, 2, none⟩ (.int .i64 y.f2)).setCell ⟨gb, 3, none⟩ (.int .i64 y.f3)).setCell ⟨gb, 4, none⟩ (.int .i64 y.f4)).setCell ⟨gb, 5, none⟩ (.int .i64 y.f5)).setCell ⟨gb, 6, none⟩ (.string y.f6)).setCell ⟨gb, 7, none⟩ (.slice A7' y.f7.length c7')).setCell ⟨gb, 8, none⟩ (.slice A8' y.f8.length c8'))) := ⟨by (with_reducible repeat (first | exact HBb.out | refine below_set ?_ GE.out))⟩
        have HO1 : Aside0 (kRaw.R 34 (((((((((wb.setCell ⟨gb, 0, none⟩ (.int .i64 y.f0)).setCell ⟨gb, 1, none⟩ (.int .i64 y.f1)).setCell ⟨gb, 2, none⟩ (.int .i64 y.f2)).setCell ⟨gb, 3, none⟩ (.int .i64 y.f3)).setCell ⟨gb, 4, none⟩ (.int .i64 y.f4)).setCell ⟨gb, 5, none⟩ (.int .i64 y.f5)).setCell ⟨gb, 6, none⟩ (.string y.f6)).setCell ⟨gb, 7, none⟩ (.slice A7' y.f7.length c7')).setCell ⟨gb, 8, none⟩ (.slice A8' y.f8.length c8')) w.heap.size (fun _ => True) _ X) := ⟨raw_apart HO.out BB.out GB.out (by (with_reducible repeat (first | exact KeepBut.refl _ _ _ | refine KeepBut.set_ ?_ _ _)))⟩
        go_roundw
        case rel => exact ⟨i + 1, x + 1, X, rfl, HI, HLE, HB1, HO1, HL1⟩
        case measure => exact HM.out
    · have k1 : decide (x < (l1.length : Int)) = false := decide_eq_false (by omega)
      have hlast := HL.out
      rw [List.take_of_length_le (by omega)] at hlast
      obtain ⟨A9, c9, e9, h9, hC9⟩ := C_of_raw HO.out (hlast.below HBr.out)
      subst e9
      have H9 := Aside0.mk h9
      have HC9 := Aside0.mk hC9
      clear hlast h9 hC9 hxi hile hlt
      go_wp2_with (go_at_call 10; (with_reducible refine (term_Votes.calls (1 + n) (1 + t) _ _ (l1.filter (ownB (1 + n) (1 + t))) 0 0 _ HC9.out H9.out VC.out).mono ?_); rintro e w9 ⟨rfl, hb⟩; have HB9 := Aside0.mk (below_step (w := w) HBr.out hb); clear hb)
      go_ret
      exact ⟨rfl, HB9.out⟩
set_option maxHeartbeats 1000000 in
set_option maxRecDepth 100000 in
theorem stays_eq (p0 p1 p2 n t : Int) (A1 : Option Addr) (c1 : Nat) (l1 : List S34) (A2 : Option Addr) (c2 : Nat) (l2 : List S34) (w : World) (hr1 : Kd.C k34 w A1 l1.length l1) (hc1 : l1.length ≤ c1) (hr2 : Kd.C k34 w A2 l2.length l2) (hc2 : l2.length ≤ c2) (hw : corncriblaw21_works.f = some true)
    (hn : corncribbook_Among.f p0 6 = some n) (ht : corncribbook_Among.f p2 6 = some t) (n0 : 0 ≤ n) (n1 : n ≤ 5) (t0 : 0 ≤ t) (t1 : t ≤ 5) (z1 : lenOk l1 = true) (z2 : lenOk l2 = true) (z : l1.length + l2.length ≤ 500) (a : Int)
    (va : term_Votes.f (1 + n) (1 + t) l1 = some (a, 0)) (vb : term_Votes.f (1 + n) (1 + t) (l1 ++ l2) = some (a, 0)) (ha : a ≠ 0) (vc : term_Votes.f (1 + n) (1 + t) (l1.filter (ownB (1 + n) (1 + t))) = some (a, 0)) :
    Calls Try.prog 3 #[.agg #[.int .i64 p0, .int .i64 p1, .int .i64 p2], .slice A1 l1.length c1, .slice A2 l2.length c2] w fun e w' => e = .returned (.bool true) ∧ Below w.heap.size w w' := by
  have hu23 := Try.underlying23
  have hu24 := Try.underlying24
  have hu34 := Try.underlying34
  have HR1 := Aside0.mk hr1
  have HR2 := Aside0.mk hr2
  have HC1 := Aside0.mk hc1
  have HC2 := Aside0.mk hc2
  have HW := Aside0.mk hw
  have HN := Aside0.mk hn
  have HT := Aside0.mk ht
  have VA := Aside0.mk va
  have VB := Aside0.mk vb
  have VC := Aside0.mk vc
  have ZZ := Aside0.mk z
  have d1 : decide (500 < (l1.length : Int) + (l2.length : Int)) = false := decide_eq_false (by omega)
  have m1 : (l1.length : Int) ≤ 500 := by omega
  have m2 : (l2.length : Int) ≤ 500 := by omega
  clear hr1 hr2 hc1 hc2 hw hn ht va vb vc z z1 z2
  have HB := Aside0.mk (Below.refl w.heap.size w)
  have W0 : Aside0 (wrap64 (1 + n) = 1 + n) := ⟨wrap_id (by omega) (by omega)⟩
  have e1 : (a == 0) = false := beq_eq_false_iff_ne.2 ha
  have e2 : (a != 0) = true := bne_iff_ne.2 ha
  clear ha
  go_enter Try.func3, Try.ntmps3
  go_wp2_with (first | ((with_reducible refine gate_dst (N := 3) rfl ?_); refine box_event ?hg (N := 3) ?hd (cs := #[.int .i64 p0, .int .i64 p1, .int .i64 p2]) (t := 23) ?hr ?_; (case hd => rfl); (case hg => rfl); (case hr => first | (go_simp; done) | (go_simp; rfl)); intro gw hgw w1 hbox hb; have HB1 := Aside0.mk hb; have BW := Aside0.mk hbox; clear hgw hb hbox) | (go_at_call 8; refine (corncriblaw21_works.calls true _ HW.out).mono ?_; rintro e w2 ⟨rfl, hb⟩; have HB2 := Aside0.mk (below_step (w := w) HB1.out hb); have BW2 := Aside0.mk (blk_below BW.out hb); clear hb))
  have hp0 : w2.cell? ⟨gw, 0, none⟩ = some (.int .i64 p0) := (blk_cell BW2.out 0).trans rfl
  have hp2 : w2.cell? ⟨gw, 2, none⟩ = some (.int .i64 p2) := (blk_cell BW2.out 2).trans rfl
  have q1 : IntKind.i64.wrap (1 + n) = 1 + n := IntWalk.i64_in _ (by omega)
  have q2 : IntKind.i64.wrap (1 + t) = 1 + t := IntWalk.i64_in _ (by omega)
  go_region_held3 (fun W => W.cell? ⟨gw, 0, none⟩ = some (.int .i64 p0) ∧ W.cell? ⟨gw, 2, none⟩ = some (.int .i64 p2)) (go_keep) (first | (go_at_call 9; (with_reducible refine (corncribbook_Among.calls p0 6 n _ HN.out).mono ?_); rintro e w' ⟨rfl, hd⟩; obtain ⟨nd, rfl⟩ := hd.out; clear hd) | (go_at_call 9; (with_reducible refine (corncribbook_Among.calls p2 6 t _ HT.out).mono ?_); rintro e w' ⟨rfl, hd⟩; obtain ⟨nd, rfl⟩ := hd.out; clear hd))
  all_goals generalize eW : World.drewN w2 _ = w3
  all_goals have HB3 : Aside0 (Below w.heap.size w w3) := ⟨by rw [← eW]; exact pw_below_drewN HB2.out _⟩
  all_goals clear eW hp0 hp2 q1 q2
  obtain ⟨X1, rr1, lx1⟩ := raw_of HR1.out
  obtain ⟨X2, rr2, lx2⟩ := raw_of HR2.out
  have RR1 := Aside0.mk rr1
  have RR2 := Aside0.mk rr2
  have LX1 := Aside0.mk lx1
  have LX2 := Aside0.mk lx2
  clear rr1 rr2 lx1 lx2
  go_wp2_with (first | (go_at_call 10; (with_reducible refine (term_Votes.calls (1 + n) (1 + t) _ _ l1 a 0 w3 (Kd.C_below HR1.out HB3.out) HC1.out VA.out).mono ?_); rintro e w4 ⟨rfl, hb⟩; have HB4 := Aside0.mk (below_step (w := w) HB3.out hb); clear hb) | (go_at_call 10; (with_reducible refine (votes_len (l1.length + l2.length) List.length_append.symm HC7.out HL7.out VB.out).mono ?_); rintro e w8 ⟨rfl, hb⟩; have HB8 := Aside0.mk (below_step (w := w) HB7.out hb); clear hb) | ((with_reducible refine gate_dst (N := 44) rfl ?_); refine Kd.R_lit kRaw (w0 := w) w.heap.size 34 ?hg (N := 44) ?hd (xs := ([] : List Raw)) (inner := []) (ok := fun _ => True) (okp := fun _ => True) ?hr (Reps.none _ _) (fun _ h => h) trivial HB4.out HB4.out.size (by simp) ?_; (case hd => rfl); (case hg => rfl); (case hr => first | (go_simp; done) | (go_simp; rfl)); intro v44 w5 ho hb hg hat; have HO5 := Aside0.mk ho; have HB5 := Aside0.mk hb; clear ho hb hg hat) | ((with_reducible refine gate_builtin (b := .append) (xs := #[.tmp 44, .tmp 45]) rfl ?_); at_builtin; refine Kd.R_append_rows kRaw (w0 := w) w.heap.size rfl (.tmp 44) (.tmp 45) 24 34 (.agg #[.int .i64 0, .int .i64 0, .int .i64 0, .int .i64 0, .int .i64 0, .int .i64 0, .string ⟨#[]⟩, .slice none 0 0, .slice none 0 0]) 112 rfl Try.underlying24 info34 rfl (by decide) (by omega) v44 [] X1 _ _ _ (fun _ => True) (fun _ => False) rfl rfl HO5.out ?aR (fun _ _ h => h) (fun _ h => h.elim) (fun _ _ => trivial) HB5.out HB5.out.size ?aL ?_; (case aR => exact raw_keep RR1.out HB5.out); (case aL => have := ZZ.out; simp; omega); intro v46 w6 ho hb hg hat; have HO6 := Aside0.mk ho; have HB6 := Aside0.mk hb; clear ho hb hg hat) | ((with_reducible refine gate_builtin (b := .append) (xs := #[.tmp 46, .tmp 47]) rfl ?_); at_builtin; refine Kd.R_append_rows kRaw (w0 := w) w.heap.size rfl (.tmp 46) (.tmp 47) 24 34 (.agg #[.int .i64 0, .int .i64 0, .int .i64 0, .int .i64 0, .int .i64 0, .int .i64 0, .string ⟨#[]⟩, .slice none 0 0, .slice none 0 0]) 112 rfl Try.underlying24 info34 rfl (by decide) (by omega) v46 X1 X2 _ _ _ (fun _ => True) (fun _ => False) rfl rfl HO6.out ?aR (fun _ _ h => h) (fun _ h => h.elim) (fun _ _ => trivial) HB6.out HB6.out.size ?aL ?_; (case aR => exact raw_keep RR2.out HB6.out); (case aL => have := ZZ.out; have := LX1.out.1; omega); intro v48 w7 ho hb hg hat; obtain ⟨A7, c7, e7, hle7, hC7⟩ := C_of_raw ho ((LX1.out.app LX2.out).below hb); subst e7; have HB7 := Aside0.mk hb; have HL7 := Aside0.mk hle7; have HC7 := Aside0.mk hC7; clear ho hb hg hat hle7 hC7))
  have HN0 := Aside0.mk (Kd.R_nil kRaw 34 w8 w.heap.size (fun _ => True))
  go_loopw [13, 69] (fun v13 v69 wr => ∃ (i : Nat) (x : Int) (X : List Raw), v69 = .int .i64 x ∧ Aside0 (x = (i : Int)) ∧ Aside0 (i ≤ l1.length) ∧ Aside0 (Below w.heap.size w wr) ∧ Aside0 (kRaw.R 34 wr w.heap.size (fun _ => True) v13 X) ∧ Aside0 (Lets w ((l1.take i).filter (ownB (1 + n) (1 + t))) X)) (fun _ v69 _ => l1.length - (intOf v69).toNat)
  case atStart => exact ⟨0, 0, [], rfl, ⟨rfl⟩, ⟨Nat.zero_le _⟩, HB8, HN0, ⟨by rw [List.take_zero]; exact Lets.nil w⟩⟩
  case round =>
    obtain ⟨i, x, X, rfl, hx, hi, HBr, HO, HL⟩ := hrel
    clear HN0 HB8 HB7 HC7 HL7 HO6 HB6 HO5 HB5 HB4 HB3 HB2 BW2 BW HB1 RR1 RR2 LX1 LX2 HB
    have hxi := hx.out
    have hile := hi.out
    by_cases hlt : i < l1.length
    · have k1 : decide (x < (l1.length : Int)) = true := decide_eq_true (by omega)
      have b0 : 0 ≤ x := by omega
      have b1 : x < (l1.length : Int) := by omega
      have b2 : x ≤ 500 := by omega
      have XL : Aside0 (X.length ≤ 500) := ⟨by have := HL.out.1; have := List.length_filter_le (ownB (1 + n) (1 + t)) (l1.take i); rw [List.length_take] at this; omega⟩
      obtain ⟨ad, A7', c7', A8', c8', eA, hx0, hx1, hx2, hx3, hx4, hx5, hx6, hx7, hx8, l7, g7, l8, g8⟩ := at_T34 HR1.out x b0 b1
      have hrd : rd_T34 l1 x = l1[i] := by rw [hxi]; simp [rd_T34, List.getD_eq_getElem?_getD, hlt]
      have hst : (l1.take (i + 1)).filter (ownB (1 + n) (1 + t)) = (l1.take i).filter (ownB (1 + n) (1 + t)) ++ (if ownB (1 + n) (1 + t) (rd_T34 l1 x) = true then [rd_T34 l1 x] else []) := by
        rw [hrd, List.take_succ_eq_append_getElem hlt, List.filter_append]
        congr 1
        by_cases hq : ownB (1 + n) (1 + t) l1[i] = true
        · rw [if_pos hq, List.filter_cons_of_pos hq, List.filter_nil]
        · rw [if_neg hq, List.filter_cons_of_neg hq, List.filter_nil]
      have hkk := k34_mk w (rd_T34 l1 x) l7 g7 l8 g8
      generalize rd_T34 l1 x = y at *
      have HST := Aside0.mk hst
      have HKK := Aside0.mk hkk
      replace hx0 := (HBr.out.cell (World.block_lt_of_cell? w _ hx0)).trans hx0
      replace hx1 := (HBr.out.cell (World.block_lt_of_cell? w _ hx1)).trans hx1
      replace hx2 := (HBr.out.cell (World.block_lt_of_cell? w _ hx2)).trans hx2
      replace hx3 := (HBr.out.cell (World.block_lt_of_cell? w _ hx3)).trans hx3
      replace hx4 := (HBr.out.cell (World.block_lt_of_cell? w _ hx4)).trans hx4
      replace hx5 := (HBr.out.cell (World.block_lt_of_cell? w _ hx5)).trans hx5
      replace hx6 := (HBr.out.cell (World.block_lt_of_cell? w _ hx6)).trans hx6
      replace hx7 := (HBr.out.cell (World.block_lt_of_cell? w _ hx7)).trans hx7
      replace hx8 := (HBr.out.cell (World.block_lt_of_cell? w _ hx8)).trans hx8
      have HI := Aside0.mk (show x + 1 = ((i + 1 : Nat) : Int) from by omega)
      have HLE := Aside0.mk (show i + 1 ≤ l1.length from hlt)
      have HM := Aside0.mk (show l1.length - (intOf (.int .i64 (x + 1))).toNat < l1.length - (intOf (.int .i64 x)).toNat from by simp [intOf]; omega)
      clear hst hkk hrd l7 g7 l8 g8 hxi hile hlt
      subst eA
      by_cases q1 : y.f0 = 4
      · have f1 : (y.f0 == 4) = true := beq_iff_eq.2 q1
        by_cases q2 : y.f3 = 1 + t
        · have f2 : (y.f3 == 1 + t) = true := beq_iff_eq.2 q2
          by_cases q3 : y.f1 < 1 + n
          · have f3 : decide (y.f1 < 1 + n) = true := decide_eq_true q3
            have HL1 := Aside0.mk (show Lets w ((l1.take (i + 1)).filter (ownB (1 + n) (1 + t))) (X ++ [rawOf HKK.out]) from by
              rw [HST.out, if_pos (show ownB (1 + n) (1 + t) y = true from decide_eq_true ⟨q1, q2, q3⟩)]
              exact HL.out.app (Lets.one HKK.out))
            clear q1 q2 q3
            go_upto_region 15 with (first | ((with_reducible refine gate_dst (N := 15) rfl ?_); refine box_event ?hg (N := 15) ?hd (cs := #[.int .i64 0, .int .i64 0, .int .i64 0, .int .i64 0, .int .i64 0, .int .i64 0, .string (⟨#[]⟩ : ByteArray), .slice none 0 0, .slice none 0 0]) (t := 34) ?hr ?_; (case hd => rfl); (case hg => rfl); (case hr => first | (go_simp; done) | (go_simp; rfl)); intro gb hgb wb hbox hb; have GB := Aside0.mk (Nat.le_of_eq hgb.symm); have GE : Aside0 (w.heap.size ≤ gb) := ⟨by rw [hgb]; exact HBr.out.size⟩; have BX := Aside0.mk hbox; have BB := Aside0.mk hb; have HBb := Aside0.mk (below_step (w := w) HBr.out hb); have hz0 := (blk_cell hbox 0).trans rfl; have hzf0 := blk_frozen hbox 0; replace hx0 := (hb.cell (World.block_lt_of_cell? wr _ hx0)).trans hx0; have hz1 := (blk_cell hbox 1).trans rfl; have hzf1 := blk_frozen hbox 1; replace hx1 := (hb.cell (World.block_lt_of_cell? wr _ hx1)).trans hx1; have hz2 := (blk_cell hbox 2).trans rfl; have hzf2 := blk_frozen hbox 2; replace hx2 := (hb.cell (World.block_lt_of_cell? wr _ hx2)).trans hx2; have hz3 := (blk_cell hbox 3).trans rfl; have hzf3 := blk_frozen hbox 3; replace hx3 := (hb.cell (World.block_lt_of_cell? wr _ hx3)).trans hx3; have hz4 := (blk_cell hbox 4).trans rfl; have hzf4 := blk_frozen hbox 4; replace hx4 := (hb.cell (World.block_lt_of_cell? wr _ hx4)).trans hx4; have hz5 := (blk_cell hbox 5).trans rfl; have hzf5 := blk_frozen hbox 5; replace hx5 := (hb.cell (World.block_lt_of_cell? wr _ hx5)).trans hx5; have hz6 := (blk_cell hbox 6).trans rfl; have hzf6 := blk_frozen hbox 6; replace hx6 := (hb.cell (World.block_lt_of_cell? wr _ hx6)).trans hx6; have hz7 := (blk_cell hbox 7).trans rfl; have hzf7 := blk_frozen hbox 7; replace hx7 := (hb.cell (World.block_lt_of_cell? wr _ hx7)).trans hx7; have hz8 := (blk_cell hbox 8).trans rfl; have hzf8 := blk_frozen hbox 8; replace hx8 := (hb.cell (World.block_lt_of_cell? wr _ hx8)).trans hx8; clear hgb hb hbox))
            have HB1 : Aside0 (Below w.heap.size w (((((((((wb.setCell ⟨gb, 0, none⟩ (.int .i64 y.f0)).setCell ⟨gb, 1, none⟩ (.int .i64 y.f1)).setCell ⟨gb, 2, none⟩ (.int .i64 y.f2)).setCell ⟨gb, 3, none⟩ (.int .i64 y.f3)).setCell ⟨gb, 4, none⟩ (.int .i64 y.f4)).setCell ⟨gb, 5, none⟩ (.int .i64 y.f5)).setCell ⟨gb, 6, none⟩ (.string y.f6)).setCell ⟨gb, 7, none⟩ (.slice A7' y.f7.length c7')).setCell ⟨gb, 8, none⟩ (.slice A8' y.f8.length c8'))) := ⟨by (with_reducible repeat (first | exact HBb.out | refine below_set ?_ GE.out))⟩
            have HO1 : Aside0 (kRaw.R 34 (((((((((wb.setCell ⟨gb, 0, none⟩ (.int .i64 y.f0)).setCell ⟨gb, 1, none⟩ (.int .i64 y.f1)).setCell ⟨gb, 2, none⟩ (.int .i64 y.f2)).setCell ⟨gb, 3, none⟩ (.int .i64 y.f3)).setCell ⟨gb, 4, none⟩ (.int .i64 y.f4)).setCell ⟨gb, 5, none⟩ (.int .i64 y.f5)).setCell ⟨gb, 6, none⟩ (.string y.f6)).setCell ⟨gb, 7, none⟩ (.slice A7' y.f7.length c7')).setCell ⟨gb, 8, none⟩ (.slice A8' y.f8.length c8')) w.heap.size (fun _ => True) _ X) := ⟨raw_apart HO.out BB.out GB.out (by (with_reducible repeat (first | exact KeepBut.refl _ _ _ | refine KeepBut.set_ ?_ _ _)))⟩
            have BK1 : Aside0 ((((((((((wb.setCell ⟨gb, 0, none⟩ (.int .i64 y.f0)).setCell ⟨gb, 1, none⟩ (.int .i64 y.f1)).setCell ⟨gb, 2, none⟩ (.int .i64 y.f2)).setCell ⟨gb, 3, none⟩ (.int .i64 y.f3)).setCell ⟨gb, 4, none⟩ (.int .i64 y.f4)).setCell ⟨gb, 5, none⟩ (.int .i64 y.f5)).setCell ⟨gb, 6, none⟩ (.string y.f6)).setCell ⟨gb, 7, none⟩ (.slice A7' y.f7.length c7')).setCell ⟨gb, 8, none⟩ (.slice A8' y.f8.length c8') : World).heap[gb]? = some (.cells #[.int .i64 y.f0, .int .i64 y.f1, .int .i64 y.f2, .int .i64 y.f3, .int .i64 y.f4, .int .i64 y.f5, .string y.f6, .slice A7' y.f7.length c7', .slice A8' y.f8.length c8'] 34 (0, 0))) := ⟨set9 BX.out⟩
            generalize eW : (((((((((wb.setCell ⟨gb, 0, none⟩ (.int .i64 y.f0)).setCell ⟨gb, 1, none⟩ (.int .i64 y.f1)).setCell ⟨gb, 2, none⟩ (.int .i64 y.f2)).setCell ⟨gb, 3, none⟩ (.int .i64 y.f3)).setCell ⟨gb, 4, none⟩ (.int .i64 y.f4)).setCell ⟨gb, 5, none⟩ (.int .i64 y.f5)).setCell ⟨gb, 6, none⟩ (.string y.f6)).setCell ⟨gb, 7, none⟩ (.slice A7' y.f7.length c7')).setCell ⟨gb, 8, none⟩ (.slice A8' y.f8.length c8') : World) = W1 at HB1 HO1 BK1 ⊢
            clear eW hz0 hzf0 hx0 hz1 hzf1 hx1 hz2 hzf2 hx2 hz3 hzf3 hx3 hz4 hzf4 hx4 hz5 hzf5 hx5 hz6 hzf6 hx6 hz7 hzf7 hx7 hz8 hzf8 hx8
            have hy0 : W1.cell? ⟨gb, 0, none⟩ = some (.int .i64 y.f0) := (blk_cell BK1.out 0).trans rfl
            have hy1 : W1.cell? ⟨gb, 1, none⟩ = some (.int .i64 y.f1) := (blk_cell BK1.out 1).trans rfl
            have hy2 : W1.cell? ⟨gb, 2, none⟩ = some (.int .i64 y.f2) := (blk_cell BK1.out 2).trans rfl
            have hy3 : W1.cell? ⟨gb, 3, none⟩ = some (.int .i64 y.f3) := (blk_cell BK1.out 3).trans rfl
            have hy4 : W1.cell? ⟨gb, 4, none⟩ = some (.int .i64 y.f4) := (blk_cell BK1.out 4).trans rfl
            have hy5 : W1.cell? ⟨gb, 5, none⟩ = some (.int .i64 y.f5) := (blk_cell BK1.out 5).trans rfl
            have hy6 : W1.cell? ⟨gb, 6, none⟩ = some (.string y.f6) := (blk_cell BK1.out 6).trans rfl
            have hy7 : W1.cell? ⟨gb, 7, none⟩ = some (.slice A7' y.f7.length c7') := (blk_cell BK1.out 7).trans rfl
            have hy8 : W1.cell? ⟨gb, 8, none⟩ = some (.slice A8' y.f8.length c8') := (blk_cell BK1.out 8).trans rfl
            go_wp2_with (((with_reducible refine gate_builtin (b := .append) (xs := #[.tmp 88, .tmp 90]) rfl ?_); at_builtin; refine Kd.R_append kRaw (w0 := w) w.heap.size rfl (.tmp 88) (.tmp 90) 24 34 (.agg #[.int .i64 0, .int .i64 0, .int .i64 0, .int .i64 0, .int .i64 0, .int .i64 0, .string ⟨#[]⟩, .slice none 0 0, .slice none 0 0]) 112 rfl Try.underlying24 info34 rfl (by decide) (by omega) _ X (rawOf HKK.out) [.int .i64 y.f0, .int .i64 y.f1, .int .i64 y.f2, .int .i64 y.f3, .int .i64 y.f4, .int .i64 y.f5, .string y.f6, .slice A7' y.f7.length c7', .slice A8' y.f8.length c8'] (fun _ => True) (fun _ => False) rfl rfl ?aP (fun _ hk => hk.elim) (fun _ _ => trivial) HO1.out HB1.out HB1.out.size ?aL ?_; (case aP => exact rfl); (case aL => have := XL.out; omega); intro v91 w91 ho hb hg hat; have HO91 := Aside0.mk ho; have HB91 := Aside0.mk hb; clear ho hb hg hat))
            exact ⟨⟨i + 1, x + 1, X ++ [rawOf HKK.out], rfl, HI, HLE, HB91, HO91, HL1⟩, HM.out⟩
          · have f3 : decide (y.f1 < 1 + n) = false := decide_eq_false q3
            have HL1 := Aside0.mk (show Lets w ((l1.take (i + 1)).filter (ownB (1 + n) (1 + t))) X from by
              rw [HST.out, if_neg (fun h => q3 (of_decide_eq_true h).2.2), List.append_nil]
              exact HL.out)
            clear q1 q2 q3
            go_wp2_with (first | ((with_reducible refine gate_dst (N := 15) rfl ?_); refine box_event ?hg (N := 15) ?hd (cs := #[.int .i64 0, .int .i64 0, .int .i64 0, .int .i64 0, .int .i64 0, .int .i64 0, .string (⟨#[]⟩ : ByteArray), .slice none 0 0, .slice none 0 0]) (t := 34) ?hr ?_; (case hd => rfl); (case hg => rfl); (case hr => first | (go_simp; done) | (go_simp; rfl)); intro gb hgb wb hbox hb; have GB := Aside0.mk (Nat.le_of_eq hgb.symm); have GE : Aside0 (w.heap.size ≤ gb) := ⟨by rw [hgb]; exact HBr.out.size⟩; have BX := Aside0.mk hbox; have BB := Aside0.mk hb; have HBb := Aside0.mk (below_step (w := w) HBr.out hb); have hz0 := (blk_cell hbox 0).trans rfl; have hzf0 := blk_frozen hbox 0; replace hx0 := (hb.cell (World.block_lt_of_cell? wr _ hx0)).trans hx0; have hz1 := (blk_cell hbox 1).trans rfl; have hzf1 := blk_frozen hbox 1; replace hx1 := (hb.cell (World.block_lt_of_cell? wr _ hx1)).trans hx1; have hz2 := (blk_cell hbox 2).trans rfl; have hzf2 := blk_frozen hbox 2; replace hx2 := (hb.cell (World.block_lt_of_cell? wr _ hx2)).trans hx2; have hz3 := (blk_cell hbox 3).trans rfl; have hzf3 := blk_frozen hbox 3; replace hx3 := (hb.cell (World.block_lt_of_cell? wr _ hx3)).trans hx3; have hz4 := (blk_cell hbox 4).trans rfl; have hzf4 := blk_frozen hbox 4; replace hx4 := (hb.cell (World.block_lt_of_cell? wr _ hx4)).trans hx4; have hz5 := (blk_cell hbox 5).trans rfl; have hzf5 := blk_frozen hbox 5; replace hx5 := (hb.cell (World.block_lt_of_cell? wr _ hx5)).trans hx5; have hz6 := (blk_cell hbox 6).trans rfl; have hzf6 := blk_frozen hbox 6; replace hx6 := (hb.cell (World.block_lt_of_cell? wr _ hx6)).trans hx6; have hz7 := (blk_cell hbox 7).trans rfl; have hzf7 := blk_frozen hbox 7; replace hx7 := (hb.cell (World.block_lt_of_cell? wr _ hx7)).trans hx7; have hz8 := (blk_cell hbox 8).trans rfl; have hzf8 := blk_frozen hbox 8; replace hx8 := (hb.cell (World.block_lt_of_cell? wr _ hx8)).trans hx8; clear hgb hb hbox))
            have HB1 : Aside0 (Below w.heap.size w (((((((((wb.setCell ⟨gb, 0, none⟩ (.int .i64 y.f0)).setCell ⟨gb, 1, none⟩ (.int .i64 y.f1)).setCell ⟨gb, 2, none⟩ (.int .i64 y.f2)).setCell ⟨gb, 3, none⟩ (.int .i64 y.f3)).setCell ⟨gb, 4, none⟩ (.int .i64 y.f4)).setCell ⟨gb, 5, none⟩ (.int .i64 y.f5)).setCell ⟨gb, 6, none⟩ (.string y.f6)).setCell ⟨gb, 7, none⟩ (.slice A7' y.f7.length c7')).setCell ⟨gb, 8, none⟩ (.slice A8' y.f8.length c8'))) := ⟨by (with_reducible repeat (first | exact HBb.out | refine below_set ?_ GE.out))⟩
            have HO1 : Aside0 (kRaw.R 34 (((((((((wb.setCell ⟨gb, 0, none⟩ (.int .i64 y.f0)).setCell ⟨gb, 1, none⟩ (.int .i64 y.f1)).setCell ⟨gb, 2, none⟩ (.int .i64 y.f2)).setCell ⟨gb, 3, none⟩ (.int .i64 y.f3)).setCell ⟨gb, 4, none⟩ (.int .i64 y.f4)).setCell ⟨gb, 5, none⟩ (.int .i64 y.f5)).setCell ⟨gb, 6, none⟩ (.string y.f6)).setCell ⟨gb, 7, none⟩ (.slice A7' y.f7.length c7')).setCell ⟨gb, 8, none⟩ (.slice A8' y.f8.length c8')) w.heap.size (fun _ => True) _ X) := ⟨raw_apart HO.out BB.out GB.out (by (with_reducible repeat (first | exact KeepBut.refl _ _ _ | refine KeepBut.set_ ?_ _ _)))⟩
            go_roundw
            case rel => exact ⟨i + 1, x + 1, X, rfl, HI, HLE, HB1, HO1, HL1⟩
            case measure => exact HM.out
        · have f2 : (y.f3 == 1 + t) = false := beq_eq_false_iff_ne.2 q2
          have HL1 := Aside0.mk (show Lets w ((l1.take (i + 1)).filter (ownB (1 + n) (1 + t))) X from by
            rw [HST.out, if_neg (fun h => q2 (of_decide_eq_true h).2.1), List.append_nil]
            exact HL.out)
          clear q1 q2
          go_wp2_with (first | ((with_reducible refine gate_dst (N := 15) rfl ?_); refine box_event ?hg (N := 15) ?hd (cs := #[.int .i64 0, .int .i64 0, .int .i64 0, .int .i64 0, .int .i64 0, .int .i64 0, .string (⟨#[]⟩ : ByteArray), .slice none 0 0, .slice none 0 0]) (t := 34) ?hr ?_; (case hd => rfl); (case hg => rfl); (case hr => first | (go_simp; done) | (go_simp; rfl)); intro gb hgb wb hbox hb; have GB := Aside0.mk (Nat.le_of_eq hgb.symm); have GE : Aside0 (w.heap.size ≤ gb) := ⟨by rw [hgb]; exact HBr.out.size⟩; have BX := Aside0.mk hbox; have BB := Aside0.mk hb; have HBb := Aside0.mk (below_step (w := w) HBr.out hb); have hz0 := (blk_cell hbox 0).trans rfl; have hzf0 := blk_frozen hbox 0; replace hx0 := (hb.cell (World.block_lt_of_cell? wr _ hx0)).trans hx0; have hz1 := (blk_cell hbox 1).trans rfl; have hzf1 := blk_frozen hbox 1; replace hx1 := (hb.cell (World.block_lt_of_cell? wr _ hx1)).trans hx1; have hz2 := (blk_cell hbox 2).trans rfl; have hzf2 := blk_frozen hbox 2; replace hx2 := (hb.cell (World.block_lt_of_cell? wr _ hx2)).trans hx2; have hz3 := (blk_cell hbox 3).trans rfl; have hzf3 := blk_frozen hbox 3; replace hx3 := (hb.cell (World.block_lt_of_cell? wr _ hx3)).trans hx3; have hz4 := (blk_cell hbox 4).trans rfl; have hzf4 := blk_frozen hbox 4; replace hx4 := (hb.cell (World.block_lt_of_cell? wr _ hx4)).trans hx4; have hz5 := (blk_cell hbox 5).trans rfl; have hzf5 := blk_frozen hbox 5; replace hx5 := (hb.cell (World.block_lt_of_cell? wr _ hx5)).trans hx5; have hz6 := (blk_cell hbox 6).trans rfl; have hzf6 := blk_frozen hbox 6; replace hx6 := (hb.cell (World.block_lt_of_cell? wr _ hx6)).trans hx6; have hz7 := (blk_cell hbox 7).trans rfl; have hzf7 := blk_frozen hbox 7; replace hx7 := (hb.cell (World.block_lt_of_cell? wr _ hx7)).trans hx7; have hz8 := (blk_cell hbox 8).trans rfl; have hzf8 := blk_frozen hbox 8; replace hx8 := (hb.cell (World.block_lt_of_cell? wr _ hx8)).trans hx8; clear hgb hb hbox))
          have HB1 : Aside0 (Below w.heap.size w (((((((((wb.setCell ⟨gb, 0, none⟩ (.int .i64 y.f0)).setCell ⟨gb, 1, none⟩ (.int .i64 y.f1)).setCell ⟨gb, 2, none⟩ (.int .i64 y.f2)).setCell ⟨gb, 3, none⟩ (.int .i64 y.f3)).setCell ⟨gb, 4, none⟩ (.int .i64 y.f4)).setCell ⟨gb, 5, none⟩ (.int .i64 y.f5)).setCell ⟨gb, 6, none⟩ (.string y.f6)).setCell ⟨gb, 7, none⟩ (.slice A7' y.f7.length c7')).setCell ⟨gb, 8, none⟩ (.slice A8' y.f8.length c8'))) := ⟨by (with_reducible repeat (first | exact HBb.out | refine below_set ?_ GE.out))⟩
          have HO1 : Aside0 (kRaw.R 34 (((((((((wb.setCell ⟨gb, 0, none⟩ (.int .i64 y.f0)).setCell ⟨gb, 1, none⟩ (.int .i64 y.f1)).setCell ⟨gb, 2, none⟩ (.int .i64 y.f2)).setCell ⟨gb, 3, none⟩ (.int .i64 y.f3)).setCell ⟨gb, 4, none⟩ (.int .i64 y.f4)).setCell ⟨gb, 5, none⟩ (.int .i64 y.f5)).setCell ⟨gb, 6, none⟩ (.string y.f6)).setCell ⟨gb, 7, none⟩ (.slice A7' y.f7.length c7')).setCell ⟨gb, 8, none⟩ (.slice A8' y.f8.length c8')) w.heap.size (fun _ => True) _ X) := ⟨raw_apart HO.out BB.out GB.out (by (with_reducible repeat (first | exact KeepBut.refl _ _ _ | refine KeepBut.set_ ?_ _ _)))⟩
          go_roundw
          case rel => exact ⟨i + 1, x + 1, X, rfl, HI, HLE, HB1, HO1, HL1⟩
          case measure => exact HM.out
      · have f1 : (y.f0 == 4) = false := beq_eq_false_iff_ne.2 q1
        have HL1 := Aside0.mk (show Lets w ((l1.take (i + 1)).filter (ownB (1 + n) (1 + t))) X from by
          rw [HST.out, if_neg (fun h => q1 (of_decide_eq_true h).1), List.append_nil]
          exact HL.out)
        clear q1
        go_wp2_with (first | ((with_reducible refine gate_dst (N := 15) rfl ?_); refine box_event ?hg (N := 15) ?hd (cs := #[.int .i64 0, .int .i64 0, .int .i64 0, .int .i64 0, .int .i64 0, .int .i64 0, .string (⟨#[]⟩ : ByteArray), .slice none 0 0, .slice none 0 0]) (t := 34) ?hr ?_; (case hd => rfl); (case hg => rfl); (case hr => first | (go_simp; done) | (go_simp; rfl)); intro gb hgb wb hbox hb; have GB := Aside0.mk (Nat.le_of_eq hgb.symm); have GE : Aside0 (w.heap.size ≤ gb) := ⟨by rw [hgb]; exact HBr.out.size⟩; have BX := Aside0.mk hbox; have BB := Aside0.mk hb; have HBb := Aside0.mk (below_step (w := w) HBr.out hb); have hz0 := (blk_cell hbox 0).trans rfl; have hzf0 := blk_frozen hbox 0; replace hx0 := (hb.cell (World.block_lt_of_cell? wr _ hx0)).trans hx0; have hz1 := (blk_cell hbox 1).trans rfl; have hzf1 := blk_frozen hbox 1; replace hx1 := (hb.cell (World.block_lt_of_cell? wr _ hx1)).trans hx1; have hz2 := (blk_cell hbox 2).trans rfl; have hzf2 := blk_frozen hbox 2; replace hx2 := (hb.cell (World.block_lt_of_cell? wr _ hx2)).trans hx2; have hz3 := (blk_cell hbox 3).trans rfl; have hzf3 := blk_frozen hbox 3; replace hx3 := (hb.cell (World.block_lt_of_cell? wr _ hx3)).trans hx3; have hz4 := (blk_cell hbox 4).trans rfl; have hzf4 := blk_frozen hbox 4; replace hx4 := (hb.cell (World.block_lt_of_cell? wr _ hx4)).trans hx4; have hz5 := (blk_cell hbox 5).trans rfl; have hzf5 := blk_frozen hbox 5; replace hx5 := (hb.cell (World.block_lt_of_cell? wr _ hx5)).trans hx5; have hz6 := (blk_cell hbox 6).trans rfl; have hzf6 := blk_frozen hbox 6; replace hx6 := (hb.cell (World.block_lt_of_cell? wr _ hx6)).trans hx6; have hz7 := (blk_cell hbox 7).trans rfl; have hzf7 := blk_frozen hbox 7; replace hx7 := (hb.cell (World.block_lt_of_cell? wr _ hx7)).trans hx7; have hz8 := (blk_cell hbox 8).trans rfl; have hzf8 := blk_frozen hbox 8; replace hx8 := (hb.cell (World.block_lt_of_cell? wr _ hx8)).trans hx8; clear hgb hb hbox))
        have HB1 : Aside0 (Below w.heap.size w (((((((((wb.setCell ⟨gb, 0, none⟩ (.int .i64 y.f0)).setCell ⟨gb, 1, none⟩ (.int .i64 y.f1)).setCell ⟨gb, 2, none⟩ (.int .i64 y.f2)).setCell ⟨gb, 3, none⟩ (.int .i64 y.f3)).setCell ⟨gb, 4, none⟩ (.int .i64 y.f4)).setCell ⟨gb, 5, none⟩ (.int .i64 y.f5)).setCell ⟨gb, 6, none⟩ (.string y.f6)).setCell ⟨gb, 7, none⟩ (.slice A7' y.f7.length c7')).setCell ⟨gb, 8, none⟩ (.slice A8' y.f8.length c8'))) := ⟨by (with_reducible repeat (first | exact HBb.out | refine below_set ?_ GE.out))⟩
        have HO1 : Aside0 (kRaw.R 34 (((((((((wb.setCell ⟨gb, 0, none⟩ (.int .i64 y.f0)).setCell ⟨gb, 1, none⟩ (.int .i64 y.f1)).setCell ⟨gb, 2, none⟩ (.int .i64 y.f2)).setCell ⟨gb, 3, none⟩ (.int .i64 y.f3)).setCell ⟨gb, 4, none⟩ (.int .i64 y.f4)).setCell ⟨gb, 5, none⟩ (.int .i64 y.f5)).setCell ⟨gb, 6, none⟩ (.string y.f6)).setCell ⟨gb, 7, none⟩ (.slice A7' y.f7.length c7')).setCell ⟨gb, 8, none⟩ (.slice A8' y.f8.length c8')) w.heap.size (fun _ => True) _ X) := ⟨raw_apart HO.out BB.out GB.out (by (with_reducible repeat (first | exact KeepBut.refl _ _ _ | refine KeepBut.set_ ?_ _ _)))⟩
        go_roundw
        case rel => exact ⟨i + 1, x + 1, X, rfl, HI, HLE, HB1, HO1, HL1⟩
        case measure => exact HM.out
    · have k1 : decide (x < (l1.length : Int)) = false := decide_eq_false (by omega)
      have hlast := HL.out
      rw [List.take_of_length_le (by omega)] at hlast
      obtain ⟨A9, c9, e9, h9, hC9⟩ := C_of_raw HO.out (hlast.below HBr.out)
      subst e9
      have H9 := Aside0.mk h9
      have HC9 := Aside0.mk hC9
      clear hlast h9 hC9 hxi hile hlt
      go_wp2_with (go_at_call 10; (with_reducible refine (term_Votes.calls (1 + n) (1 + t) _ _ (l1.filter (ownB (1 + n) (1 + t))) a 0 _ HC9.out H9.out VC.out).mono ?_); rintro e w9 ⟨rfl, hb⟩; have HB9 := Aside0.mk (below_step (w := w) HBr.out hb); clear hb)
      go_ret
      exact ⟨rfl, HB9.out⟩
set_option maxHeartbeats 1000000 in
set_option maxRecDepth 100000 in
theorem stays_long (p0 p1 p2 n t : Int) (A1 : Option Addr) (c1 : Nat) (l1 : List S34) (A2 : Option Addr) (c2 : Nat) (l2 : List S34) (w : World) (hw : corncriblaw21_works.f = some true)
    (hn : corncribbook_Among.f p0 6 = some n) (ht : corncribbook_Among.f p2 6 = some t) (n0 : 0 ≤ n) (n1 : n ≤ 5) (t0 : 0 ≤ t) (t1 : t ≤ 5) (z : 500 < l1.length + l2.length) (y1 : l1.length ≤ 1256584717458) (y2 : l2.length ≤ 1256584717458) :
    Calls Try.prog 3 #[.agg #[.int .i64 p0, .int .i64 p1, .int .i64 p2], .slice A1 l1.length c1, .slice A2 l2.length c2] w fun e w' => e = .returned (.bool true) ∧ Below w.heap.size w w' := by
  have hu23 := Try.underlying23
  have hu24 := Try.underlying24
  have hu34 := Try.underlying34
  have HW := Aside0.mk hw
  have HN := Aside0.mk hn
  have HT := Aside0.mk ht
  have d1 : decide (500 < (l1.length : Int) + (l2.length : Int)) = true := decide_eq_true (by omega)
  have m1 : (l1.length : Int) ≤ 1256584717458 := by omega
  have m2 : (l2.length : Int) ≤ 1256584717458 := by omega
  clear hw hn ht z y1 y2
  have HB := Aside0.mk (Below.refl w.heap.size w)
  have W0 : Aside0 (wrap64 (1 + n) = 1 + n) := ⟨wrap_id (by omega) (by omega)⟩
  go_enter Try.func3, Try.ntmps3
  go_wp2_with (first | ((with_reducible refine gate_dst (N := 3) rfl ?_); refine box_event ?hg (N := 3) ?hd (cs := #[.int .i64 p0, .int .i64 p1, .int .i64 p2]) (t := 23) ?hr ?_; (case hd => rfl); (case hg => rfl); (case hr => first | (go_simp; done) | (go_simp; rfl)); intro gw hgw w1 hbox hb; have HB1 := Aside0.mk hb; have BW := Aside0.mk hbox; clear hgw hb hbox) | (go_at_call 8; refine (corncriblaw21_works.calls true _ HW.out).mono ?_; rintro e w2 ⟨rfl, hb⟩; have HB2 := Aside0.mk (below_step (w := w) HB1.out hb); have BW2 := Aside0.mk (blk_below BW.out hb); clear hb))
  have hp0 : w2.cell? ⟨gw, 0, none⟩ = some (.int .i64 p0) := (blk_cell BW2.out 0).trans rfl
  have hp2 : w2.cell? ⟨gw, 2, none⟩ = some (.int .i64 p2) := (blk_cell BW2.out 2).trans rfl
  have q1 : IntKind.i64.wrap (1 + n) = 1 + n := IntWalk.i64_in _ (by omega)
  have q2 : IntKind.i64.wrap (1 + t) = 1 + t := IntWalk.i64_in _ (by omega)
  go_region_held3 (fun W => W.cell? ⟨gw, 0, none⟩ = some (.int .i64 p0) ∧ W.cell? ⟨gw, 2, none⟩ = some (.int .i64 p2)) (go_keep) (first | (go_at_call 9; (with_reducible refine (corncribbook_Among.calls p0 6 n _ HN.out).mono ?_); rintro e w' ⟨rfl, hd⟩; obtain ⟨nd, rfl⟩ := hd.out; clear hd) | (go_at_call 9; (with_reducible refine (corncribbook_Among.calls p2 6 t _ HT.out).mono ?_); rintro e w' ⟨rfl, hd⟩; obtain ⟨nd, rfl⟩ := hd.out; clear hd))
  all_goals generalize eW : World.drewN w2 _ = w3
  all_goals have HB3 : Aside0 (Below w.heap.size w w3) := ⟨by rw [← eW]; exact pw_below_drewN HB2.out _⟩
  all_goals clear eW hp0 hp2 q1 q2
  go_wp2
  go_ret
  exact ⟨rfl, HB3.out⟩
theorem corncriblaw21_TermStays.calls (a0_0 a0_1 a0_2 : Int) (A1 : Option Addr) (c1 : Nat) (l1 : List S34) (A2 : Option Addr) (c2 : Nat) (l2 : List S34) (r : Bool) (w : World) (hr1 : Kd.C k34 w A1 l1.length l1) (hc1 : l1.length ≤ c1) (hr2 : Kd.C k34 w A2 l2.length l2) (hc2 : l2.length ≤ c2) (h : corncriblaw21_TermStays.f a0_0 a0_1 a0_2 l1 l2 = some r) (hr_ : r = true) :
    Calls Try.prog 3 #[.agg #[.int .i64 a0_0, .int .i64 a0_1, .int .i64 a0_2], .slice A1 l1.length c1, .slice A2 l2.length c2] w fun e w' => e = .returned (.bool r) ∧ Below w.heap.size w w' := by
  subst hr_
  unfold corncriblaw21_TermStays.f at h
  cases hw : corncriblaw21_works.f with
  | none => rw [hw] at h; cases h
  | some t0 =>
    rw [hw, Option.bind_some] at h
    split at h
    case isFalse => cases h
    rename_i ht0
    subst ht0
    cases hn : corncribbook_Among.f a0_0 6 with
    | none => rw [hn] at h; cases h
    | some n =>
      cases ht : corncribbook_Among.f a0_2 6 with
      | none => rw [hn, ht] at h; cases h
      | some t =>
        rw [hn, ht, Option.bind_some, Option.bind_some] at h
        split at h
        case isFalse => cases h
        rename_i hh
        obtain ⟨n0, n1, t0, t1, z1, z2, y1, y2⟩ := hh
        split at h
        · rename_i hl
          exact stays_long a0_0 a0_1 a0_2 n t A1 c1 l1 A2 c2 l2 w hw hn ht n0 n1 t0 t1 hl y1 y2
        · rename_i hl
          split at h
          case isFalse => cases h
          rename_i hv
          obtain ⟨v1, v2, v3, v4, v5⟩ := hv
          have z3 : lenOk (l1 ++ l2) = true := by unfold lenOk; rw [List.all_append, Bool.and_eq_true]; exact ⟨z1, z2⟩
          have z4 : lenOk (l1.filter (ownB (1 + n) (1 + t))) = true := List.all_eq_true.2 fun x hx => List.all_eq_true.1 z1 x (List.mem_filter.1 hx).1
          have ev : ∀ l, lenOk l = true → (votesL (1 + n) (1 + t) l).2 = 0 → term_Votes.f (1 + n) (1 + t) l = some ((votesL (1 + n) (1 + t) l).1, 0) := fun l hl h2 => by
            rw [term_Votes.f, if_pos hl]; exact congrArg some (Prod.ext rfl h2)
          have k1 := ev l1 z1 v1
          have k2 := ev _ z3 v2
          have k3 := ev _ z4 v4
          rw [v5] at k3
          by_cases ha : (votesL (1 + n) (1 + t) l1).1 = 0
          · rw [ha] at k1 k3
            exact stays_zero a0_0 a0_1 a0_2 n t A1 c1 l1 A2 c2 l2 w hr1 hc1 hr2 hc2 hw hn ht n0 n1 t0 t1 z1 z2 (by omega) k1 _ k2 k3
          · rw [← v3.resolve_left ha] at k2
            exact stays_eq a0_0 a0_1 a0_2 n t A1 c1 l1 A2 c2 l2 w hr1 hc1 hr2 hc2 hw hn ht n0 n1 t0 t1 z1 z2 (by omega) _ k1 k2 ha k3
end Go.Proofs.Ytdecpagcaondiaa.Al
