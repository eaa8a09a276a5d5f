/- One function of the program comes to what its plain twin says. This text began as the kit's own print (print.py, made by cprint.sh) and was turned by split.py: it is no printed file. -/
import Derived.Test.YtdecpagcaondiaaPlb
namespace Go.Proofs.Ytdecpagcaondiaa.Al
open Go.RowKit Go.Proofs.YtdecpagcaondiaaW.PrintWords Go.Proofs.YtdecpagcaondiaaW.PrintLast Go.Proofs.YtdecpagcaondiaaW.PrintMore
attribute [local go_sem] max2_int min2_int max_two min_two max_three min_three max_four min_four   -- for this text's walks alone
set_option linter.unusedVariables false
set_option linter.unusedSimpArgs false

/-! ### corncriblaw21_TermTells: function 7 -/
mutual
def corncriblaw21_TermTells.l0 : Nat → Int → Int → Int → Int → List (S34) → Int → Int → Option (Bool)
  | 0, _, _, _, _, _, _, _ => none
  | k + 1, x1, x2, x7, x8, x9, x34, x35 => if x35 < x34 then (if x9.length < 1256584717458 then (corncriblaw21_TermTells.l0 k x1 x2 x7 x8 (x9 ++ [(⟨8, x35, x8, 5, 0, 2, (⟨#[]⟩ : ByteArray), ([] : List ByteArray), ([] : List (S70))⟩ : S34)]) x34 (wrap64 (x35 + 1))) else (none)) else ((term_Told.f x7 x8 5 x9).bind fun bt413 => ((corncribbook_Among.f x1 x7).bind fun t416 => (if 0 ≤ t416 then (if t416 < (x9.length : Int) then ((some (x9.set (t416 : Int).toNat (⟨(rd_T34 x9 t416).f0, (rd_T34 x9 t416).f1, (rd_T34 x9 t416).f2, (rd_T34 x9 t416).f3, (rd_T34 x9 t416).f4, 1, (rd_T34 x9 t416).f6, (rd_T34 x9 t416).f7, (rd_T34 x9 t416).f8⟩ : S34) : List (S34))).bind fun y417 => ((some (y417.set (t416 : Int).toNat (⟨(rd_T34 y417 t416).f0, (rd_T34 y417 t416).f1, (rd_T34 y417 t416).f2, (rd_T34 y417 t416).f3, x2, (rd_T34 y417 t416).f5, (rd_T34 y417 t416).f6, (rd_T34 y417 t416).f7, (rd_T34 y417 t416).f8⟩ : S34) : List (S34))).bind fun y418 => ((term_Told.f x7 x8 5 y418).bind fun bt419 => ((some (y418.set (t416 : Int).toNat (⟨(rd_T34 y418 t416).f0, (rd_T34 y418 t416).f1, (rd_T34 y418 t416).f2, (rd_T34 y418 t416).f3, (rd_T34 y418 t416).f4, 0, (rd_T34 y418 t416).f6, (rd_T34 y418 t416).f7, (rd_T34 y418 t416).f8⟩ : S34) : List (S34))).bind fun y422 => ((term_Told.f x7 x8 5 (y422.set (t416 : Int).toNat (⟨(rd_T34 y422 t416).f0, (rd_T34 y422 t416).f1, (rd_T34 y422 t416).f2, (rd_T34 y422 t416).f3, 0, (rd_T34 y422 t416).f5, (rd_T34 y422 t416).f6, (rd_T34 y422 t416).f7, (rd_T34 y422 t416).f8⟩ : S34))).bind fun bt424 => (if bt413.2.2 = 0 then (if bt419.2.2 = 0 then (if bt424.2.2 = 0 then (if bt413.1 = 3 then (if bt413.2.1 = 0 then (corncriblaw21_TermTells.j1 k x2 x8 t416 bt419.1 bt419.2.1 bt424.1 (bt424.2.1 != 0)) else (corncriblaw21_TermTells.j1 k x2 x8 t416 bt419.1 bt419.2.1 bt424.1 true)) else (corncriblaw21_TermTells.j1 k x2 x8 t416 bt419.1 bt419.2.1 bt424.1 true)) else (corncriblaw21_TermTells.j1 k x2 x8 t416 bt419.1 bt419.2.1 bt424.1 true)) else (corncriblaw21_TermTells.j1 k x2 x8 t416 bt419.1 bt419.2.1 bt424.1 true)) else (corncriblaw21_TermTells.j1 k x2 x8 t416 bt419.1 bt419.2.1 bt424.1 true))))))) else (none)) else (none))))
def corncriblaw21_TermTells.j1 : Nat → Int → Int → Int → Int → Int → Int → Bool → Option (Bool)
  | 0, _, _, _, _, _, _, _ => none
  | k + 1, x2, x8, x14, x15, x16, x18, x110 => if x110 = true then (some false) else (if x14 = x8 then (if x15 = 3 then (if x18 = 3 then (some (x16 == 0)) else (some false)) else (some false)) else (if x15 = 1 then (if x16 = x2 then (some (x18 == 2)) else (some false)) else (some false)))
end
def corncriblaw21_TermTells.f (k : Nat) (a0_0 : Int) (a0_1 : Int) (a0_2 : Int) (a1 : Int) (a2 : Int) : Option (Bool) := (corncriblaw21_works.f).bind fun t406 => (if t406 = true then ((corncribbook_Among.f a0_0 8).bind fun t407 => ((corncribbook_Among.f a0_1 (wrap64 (2 + t407))).bind fun t408 => ((corncribbook_Among.f a2 1000).bind fun t409 => (corncriblaw21_TermTells.l0 k a1 (wrap64 (1 + t409)) (wrap64 (2 + t407)) t408 ([] : List (S34)) (wrap64 (2 + t407)) 0)))) else (some false))
theorem corncriblaw21_TermTells.mono_l : ∀ k, (∀ y0 y1 y2 y3 y4 y5 y6, LeO (corncriblaw21_TermTells.l0 k y0 y1 y2 y3 y4 y5 y6) (corncriblaw21_TermTells.l0 (k + 1) y0 y1 y2 y3 y4 y5 y6)) ∧ (∀ y0 y1 y2 y3 y4 y5 y6, LeO (corncriblaw21_TermTells.j1 k y0 y1 y2 y3 y4 y5 y6) (corncriblaw21_TermTells.j1 (k + 1) y0 y1 y2 y3 y4 y5 y6))
  | 0 => ⟨fun _ _ _ _ _ _ _ r h => by simp [corncriblaw21_TermTells.l0] at h, fun _ _ _ _ _ _ _ r h => by simp [corncriblaw21_TermTells.j1] at h⟩
  | k + 1 => by
    obtain ⟨ih0, ih1⟩ := corncriblaw21_TermTells.mono_l k
    refine ⟨?_, ?_⟩
    · intro y0 y1 y2 y3 y4 y5 y6
      unfold corncriblaw21_TermTells.l0
      repeat' first
      | (with_reducible exact ih0 _ _ _ _ _ _ _)
      | (with_reducible exact ih1 _ _ _ _ _ _ _)
      | (with_reducible exact LeO.refl _)
      | (with_reducible exact LeO.none _)
      | (with_reducible refine LeO.ite ?_ ?_)
      | (with_reducible refine LeO.bind ?_ (fun _ => ?_))
      | exact ih0 _ _ _ _ _ _ _
      | exact ih1 _ _ _ _ _ _ _
      | exact LeO.none _
      | refine LeO.ite ?_ ?_
      | refine LeO.bind ?_ (fun _ => ?_)
    · intro y0 y1 y2 y3 y4 y5 y6
      unfold corncriblaw21_TermTells.j1
      repeat' first
      | (with_reducible exact ih0 _ _ _ _ _ _ _)
      | (with_reducible exact ih1 _ _ _ _ _ _ _)
      | (with_reducible exact LeO.refl _)
      | (with_reducible exact LeO.none _)
      | (with_reducible refine LeO.ite ?_ ?_)
      | (with_reducible refine LeO.bind ?_ (fun _ => ?_))
      | exact ih0 _ _ _ _ _ _ _
      | exact ih1 _ _ _ _ _ _ _
      | exact LeO.none _
      | refine LeO.ite ?_ ?_
      | refine LeO.bind ?_ (fun _ => ?_)
theorem corncriblaw21_TermTells.mono : ∀ a0 a1 a2 a3 a4 k, LeO (corncriblaw21_TermTells.f k a0 a1 a2 a3 a4) (corncriblaw21_TermTells.f (k + 1) a0 a1 a2 a3 a4) := by
  intro a0 a1 a2 a3 a4 k
  obtain ⟨ih0, ih1⟩ := corncriblaw21_TermTells.mono_l k
  unfold corncriblaw21_TermTells.f
  repeat' first
      | (with_reducible exact ih0 _ _ _ _ _ _ _)
      | (with_reducible exact ih1 _ _ _ _ _ _ _)
      | (with_reducible exact LeO.refl _)
      | (with_reducible exact LeO.none _)
      | (with_reducible refine LeO.ite ?_ ?_)
      | (with_reducible refine LeO.bind ?_ (fun _ => ?_))
      | exact ih0 _ _ _ _ _ _ _
      | exact ih1 _ _ _ _ _ _ _
      | exact LeO.none _
      | refine LeO.ite ?_ ?_
      | refine LeO.bind ?_ (fun _ => ?_)
set_option maxHeartbeats 8000000 in
set_option maxRecDepth 100000 in
theorem corncriblaw21_TermTells.calls (k : Nat) (a0_0 : Int) (a0_1 : Int) (a0_2 : Int) (a1 : Int) (a2 : Int) (r : Bool) (w : World) (h : corncriblaw21_TermTells.f k a0_0 a0_1 a0_2 a1 a2 = some r) (hr_ : r = true) :
    Calls Try.prog 7 #[.agg #[.int .i64 a0_0, .int .i64 a0_1, .int .i64 a0_2], .int .i64 a1, .int .i64 a2] w fun e w' => e = .returned (.bool r) ∧ Below w.heap.size w w' := by
  have HRT := Aside0.mk hr_
  clear hr_
  have hu23 := Try.underlying23
  have hu34 := Try.underlying34
  have HB := Aside0.mk (Below.refl w.heap.size w)
  have H : ((corncriblaw21_works.f).bind fun t406 => (if t406 = true then ((corncribbook_Among.f a0_0 8).bind fun t407 => ((corncribbook_Among.f a0_1 (wrap64 (2 + t407))).bind fun t408 => ((corncribbook_Among.f a2 1000).bind fun t409 => (corncriblaw21_TermTells.l0 k a1 (wrap64 (1 + t409)) (wrap64 (2 + t407)) t408 ([] : List (S34)) (wrap64 (2 + t407)) 0)))) else (some false))) = some r := h
  clear h
  replace H := Option.bind_eq_some_iff.mp H
  obtain ⟨t406, A40, H⟩ := H
  replace H : (if t406 = true then ((corncribbook_Among.f a0_0 8).bind fun t407 => ((corncribbook_Among.f a0_1 (wrap64 (2 + t407))).bind fun t408 => ((corncribbook_Among.f a2 1000).bind fun t409 => (corncriblaw21_TermTells.l0 k a1 (wrap64 (1 + t409)) (wrap64 (2 + t407)) t408 ([] : List (S34)) (wrap64 (2 + t407)) 0)))) else (some false)) = some r := H
  have A4 := Aside0.mk A40
  clear A40
  by_cases c5 : t406 = true
  · subst c5
    have H1 : ((corncribbook_Among.f a0_0 8).bind fun t407 => ((corncribbook_Among.f a0_1 (wrap64 (2 + t407))).bind fun t408 => ((corncribbook_Among.f a2 1000).bind fun t409 => (corncriblaw21_TermTells.l0 k a1 (wrap64 (1 + t409)) (wrap64 (2 + t407)) t408 ([] : List (S34)) (wrap64 (2 + t407)) 0)))) = some r := by rw [if_pos rfl] at H; exact H
    clear H
    have H := H1
    clear H1
    replace H := Option.bind_eq_some_iff.mp H
    obtain ⟨t407, A60, H⟩ := H
    replace H : ((corncribbook_Among.f a0_1 (wrap64 (2 + t407))).bind fun t408 => ((corncribbook_Among.f a2 1000).bind fun t409 => (corncriblaw21_TermTells.l0 k a1 (wrap64 (1 + t409)) (wrap64 (2 + t407)) t408 ([] : List (S34)) (wrap64 (2 + t407)) 0))) = some r := H
    have A6 := Aside0.mk A60
    clear A60
    replace H := Option.bind_eq_some_iff.mp H
    obtain ⟨t408, A70, H⟩ := H
    replace H : ((corncribbook_Among.f a2 1000).bind fun t409 => (corncriblaw21_TermTells.l0 k a1 (wrap64 (1 + t409)) (wrap64 (2 + t407)) t408 ([] : List (S34)) (wrap64 (2 + t407)) 0)) = some r := H
    have A7 := Aside0.mk A70
    clear A70
    replace H := Option.bind_eq_some_iff.mp H
    obtain ⟨t409, A80, H⟩ := H
    replace H : (corncriblaw21_TermTells.l0 k a1 (wrap64 (1 + t409)) (wrap64 (2 + t407)) t408 ([] : List (S34)) (wrap64 (2 + t407)) 0) = some r := H
    have A8 := Aside0.mk A80
    clear A80
    have H' := Aside0.mk H
    clear H
    go_enter Try.func7, Try.ntmps7
    go_wp2_with (first | ((with_reducible refine gate_dst (N := 3) rfl ?_); refine box_event ?hg (N := 3) ?hd (cs := #[.int .i64 a0_0, .int .i64 a0_1, .int .i64 a0_2]) (t := 23) ?hr ?_; (case hd => rfl); (case hg => rfl); (case hr => first | (go_simp; done) | (go_simp; rfl)); intro gb405 hg w9 hbox hb; have n0_ := Aside0.mk (below_step (by repeat (first | (with_reducible first | exact HB.out | apply below_alloc | apply pw_below_drewN | apply below_drew1) | exact HB.out)) hb); have n1_ := Aside0.mk (hbox); have n2_ := Aside0.mk ((by rw [hg]; exact (below_size (by repeat (first | (with_reducible first | exact HB.out | apply below_alloc | apply pw_below_drewN | apply below_drew1) | exact HB.out))) : w.heap.size ≤ gb405)); have n3_ := Aside0.mk ((by rw [hg]; exact (below_size (by repeat (first | (with_reducible first | exact HB.out | apply below_alloc | apply pw_below_drewN | apply below_drew1) | exact HB.out))) : w.heap.size ≤ gb405)); clear HB; have HB := n0_; have BK405 := n1_; have GW405 := n2_; have GE405 := n3_; clear n0_ n1_ n2_ n3_; clear hb hbox hg) | ((with_reducible refine gate_callee (f := 8) rfl ?_); refine goesL_ (some 21) rfl rfl Try.func8 (by kernel_rfl) rfl #[] rfl (by (try simp only [List.map_toArray, List.map_cons, List.map_nil]); first | done | rfl | (simp only [List.length_drop, List.length_take]; rfl)) ?_; (with_reducible refine (corncriblaw21_works.calls  true _ A4.out).mono ?_); rintro e w10 ⟨rfl, hb⟩; refine ⟨_, rfl, ?_⟩; have n0_ := Aside0.mk (blk_below (g := gb405) (o := .cells #[.int .i64 a0_0, .int .i64 a0_1, .int .i64 a0_2] 23 (0, 0)) (by (with_reducible repeat (first | refine blk_drewN ?_ _ | refine blk_drew ?_ | refine blk_alloc ?_ _)); exact BK405.out) hb); have n1_ := Aside0.mk (below_step (by repeat (first | (with_reducible first | exact HB.out | apply below_alloc | apply pw_below_drewN | apply below_drew1 | refine below_set ?_ GE405.out) | exact HB.out)) hb); clear BK405; clear HB; have BK405 := n0_; have HB := n1_; clear n0_ n1_; (try clear hb); (try clear hb2); (try clear hk); (try clear hi); have hcz11_0 : w10.cell? ⟨gb405, 0, none⟩ = some (.int .i64 a0_0) := (blk_cell BK405.out 0).trans rfl; have hcz11_1 : w10.cell? ⟨gb405, 1, none⟩ = some (.int .i64 a0_1) := (blk_cell BK405.out 1).trans rfl; have hcz11_2 : w10.cell? ⟨gb405, 2, none⟩ = some (.int .i64 a0_2) := (blk_cell BK405.out 2).trans rfl; have hfz11_0 := blk_frozen BK405.out 0; have hfz11_1 := blk_frozen BK405.out 1; have hfz11_2 := blk_frozen BK405.out 2) | ((with_reducible refine gate_callee (f := 9) rfl ?_); refine goesL_ (some 25) rfl rfl Try.func9 (by kernel_rfl) rfl #[.int .i64 a0_0, .int .i64 8] rfl (by (try simp only [List.map_toArray, List.map_cons, List.map_nil]); first | done | rfl | (simp only [List.length_drop, List.length_take]; rfl)) ?_; (with_reducible refine (corncribbook_Among.calls a0_0 8 t407 _ A6.out).mono ?_); rintro e w' ⟨rfl, ⟨nd, rfl⟩⟩; refine ⟨_, rfl, ?_⟩) | ((with_reducible refine gate_callee (f := 9) rfl ?_); refine goesL_ (some 30) rfl rfl Try.func9 (by kernel_rfl) rfl #[.int .i64 a0_1, .int .i64 (wrap64 (2 + t407))] rfl (by (try simp only [List.map_toArray, List.map_cons, List.map_nil]); first | done | rfl | (simp only [List.length_drop, List.length_take]; rfl)) ?_; (with_reducible refine (corncribbook_Among.calls a0_1 (wrap64 (2 + t407)) t408 _ A7.out).mono ?_); rintro e w' ⟨rfl, ⟨nd, rfl⟩⟩; refine ⟨_, rfl, ?_⟩) | ((with_reducible refine gate_callee (f := 9) rfl ?_); refine goesL_ (some 32) rfl rfl Try.func9 (by kernel_rfl) rfl #[.int .i64 a2, .int .i64 1000] rfl (by (try simp only [List.map_toArray, List.map_cons, List.map_nil]); first | done | rfl | (simp only [List.length_drop, List.length_take]; rfl)) ?_; (with_reducible refine (corncribbook_Among.calls a2 1000 t409 _ A8.out).mono ?_); rintro e w' ⟨rfl, ⟨nd, rfl⟩⟩; refine ⟨_, rfl, ?_⟩))
    go_loopg [9, 35] k (fun kq v9 v35 w' => ∃ (x9_1 : List (S34)) (x35_1 : Int), v35 = .int .i64 x35_1 ∧ Aside0 (corncriblaw21_TermTells.l0 kq a1 (wrap64 (1 + t409)) (wrap64 (2 + t407)) t408 x9_1 (wrap64 (2 + t407)) x35_1 = some r) ∧ Aside0 (kq ≤ k) ∧ Aside0 (Kd.S k34 34 w' w.heap.size (fun _ => True) v9 x9_1) ∧ Aside0 (w'.heap[gb405]? = some (.cells #[.int .i64 a0_0, .int .i64 a0_1, .int .i64 a0_2] 23 (0, 0))) ∧ Aside0 (Below w.heap.size w w'))
    case atStart => exact ⟨(([] : List (S34))), (0), (by first | rfl | (simp; done) | (simp [*]; done)), H', ⟨Nat.le_refl _⟩, ⟨by first | exact Kd.S_nil _ _ _ _ _ | exact Kd.N_nil _ _ _ _ _ | exact Kd.V_nil _ _ _ _ _ | exact Kd.Q_nil _ _ _ _ _ | exact Kd.R_nil _ _ _ _ _⟩, ⟨by (with_reducible repeat (first | refine blk_drewN ?_ _ | refine blk_drew ?_ | refine blk_alloc ?_ _)); exact BK405.out⟩, ⟨by repeat (first | (with_reducible first | exact HB.out | apply below_alloc | apply pw_below_drewN | apply below_drew1 | refine below_set ?_ GE405.out) | exact HB.out)⟩⟩
    case round =>
      clear H'
      try clear p2
      try clear c5
      try clear p6
      try clear c7
      try clear c8
      try clear c9
      try clear hcz11_0
      try clear hcz11_1
      try clear hcz11_2
      try clear hfz11_0
      try clear hfz11_1
      try clear hfz11_2
      obtain ⟨x9_1, x35_1, rfl, HA, HK1, HO_9, BK405, HB⟩ := hrel
      cases gk with
      | zero => exact absurd HA.out (by simp [corncriblaw21_TermTells.l0])
      | succ k1 =>
        have H := HA.out
        clear HA
        simp only [corncriblaw21_TermTells.l0] at H
        by_cases c12 : x35_1 < (wrap64 (2 + t407))
        · rw [if_pos c12] at H
          have c12b0 : decide (x35_1 < (wrap64 (2 + t407))) = true := decide_eq_true c12
          clear c12
          by_cases c13 : x9_1.length < 1256584717458
          · rw [if_pos c13] at H
            have LMc13 := Aside0.mk c13
            clear c13
            obtain ⟨y410, hy410⟩ : ∃ y_ : List (S34), y_ = (x9_1 ++ [(⟨8, x35_1, t408, 5, 0, 2, (⟨#[]⟩ : ByteArray), ([] : List ByteArray), ([] : List (S70))⟩ : S34)]) := ⟨_, rfl⟩
            replace H : (corncriblaw21_TermTells.l0 k1 a1 (wrap64 (1 + t409)) (wrap64 (2 + t407)) t408 y410 (wrap64 (2 + t407)) (wrap64 (x35_1 + 1))) = some r := by first | (rw [hy410]; with_reducible exact H) | (have H2_ := (Option.bind_some _ _).symm.trans H; rw [hy410]; with_reducible exact H2_) | (have H2_ := (Option.bind_some _ _).symm.trans H; with_reducible exact H2_) | with_reducible exact H | (rw [hy410]; exact H) | exact H
            have Ny410 := Aside0.mk hy410
            clear hy410
            have H' := Aside0.mk H
            clear H
            go_wp2_with (first | ((with_reducible refine gate_builtin (b := .append) (xs := #[.tmp 38, .tmp 42]) rfl ?_); at_builtin; refine Kd.S_append k34 (w0 := w) w.heap.size rfl (.tmp 38) (.tmp 42) 24 34 (.agg #[(.int .i64 0), (.int .i64 0), (.int .i64 0), (.int .i64 0), (.int .i64 0), (.int .i64 0), (.string ⟨#[]⟩), (.slice none 0 0), (.slice none 0 0)]) 112 rfl Try.underlying24 info34 rfl (by decide) (by omega) u9 x9_1 (⟨8, x35_1, t408, 5, 0, 2, (⟨#[]⟩ : ByteArray), ([] : List ByteArray), ([] : List (S70))⟩ : S34) [.int .i64 8, .int .i64 x35_1, .int .i64 t408, .int .i64 5, .int .i64 0, .int .i64 2, .string (⟨#[]⟩ : ByteArray), .slice none 0 0, .slice none 0 0] (fun _ => True) (fun _ => False) rfl rfl ?aP (fun k_ hk_ => hk_.elim) ?aF ?aO ?aB ?aS ?aL ?_; (case aP => exact k34_mkM _ _ _ (⟨8, x35_1, t408, 5, 0, 2, (⟨#[]⟩ : ByteArray), ([] : List ByteArray), ([] : List (S70))⟩ : S34) (Kd.R_nil _ _ _ _ _) (Kd.R_nil _ _ _ _ _)); (case aB => exact (by repeat (first | (with_reducible first | exact HB.out | apply below_alloc | apply pw_below_drewN | apply below_drew1 | refine below_set ?_ GE405.out) | exact HB.out))); (case aF => exact (fun _ _ => trivial)); (case aO => exact (by (with_reducible repeat (first | apply Kd.S_alloc | apply Kd.S_drewN | apply Kd.S_drew)); exact Kd.S_mono HO_9.out (fun k_ hk => ⟨trivial, fun e_ => e_⟩))); (case aS => exact (below_size (by repeat (first | (with_reducible first | exact HB.out | apply below_alloc | apply pw_below_drewN | apply below_drew1 | refine below_set ?_ GE405.out) | exact HB.out)))); (case aL => have := LMc13.out; omega); intro v411 w14 ho hb hg hat; rw [← Ny410.out] at ho; have n0_ := Aside0.mk (blk_grown (g := gb405) (o := .cells #[.int .i64 a0_0, .int .i64 a0_1, .int .i64 a0_2] 23 (0, 0)) (by (with_reducible repeat (first | refine blk_drewN ?_ _ | refine blk_drew ?_ | refine blk_alloc ?_ _)); exact BK405.out) hg (Kd.S_ne HO_9.out BK405.out (by decide))); have n1_ := Aside0.mk (hb); have n2_ := Aside0.mk (ho); clear BK405; clear HB; clear HO_9; have BK405 := n0_; have HB := n1_; have HO412 := n2_; clear n0_ n1_ n2_; clear ho hb hg hat))
            go_roundg k1
            case measure => have := HK1.out; omega
            case rel => exact ⟨(y410), (wrap64 (x35_1 + 1)), (by first | rfl | (simp; done) | (simp [*]; done)), H', ⟨by have := HK1.out; omega⟩, ⟨by (with_reducible repeat (first | apply Kd.S_alloc | apply Kd.S_drewN | apply Kd.S_drew)); exact HO412.out⟩, ⟨by (with_reducible repeat (first | refine blk_drewN ?_ _ | refine blk_drew ?_ | refine blk_alloc ?_ _)); exact BK405.out⟩, ⟨by repeat (first | (with_reducible first | exact HB.out | apply below_alloc | apply pw_below_drewN | apply below_drew1 | refine below_set ?_ GE405.out) | exact HB.out)⟩⟩
          · rw [if_neg c13] at H
            exact absurd H (by simp)
        · rw [if_neg c12] at H
          have c12b0 : decide (x35_1 < (wrap64 (2 + t407))) = false := decide_eq_false c12
          clear c12
          replace H := Option.bind_eq_some_iff.mp H
          obtain ⟨⟨t413, t414, t415⟩, A150, H⟩ := H
          replace H : ((corncribbook_Among.f a1 (wrap64 (2 + t407))).bind fun t416 => (if 0 ≤ t416 then (if t416 < (x9_1.length : Int) then ((some (x9_1.set (t416 : Int).toNat (⟨(rd_T34 x9_1 t416).f0, (rd_T34 x9_1 t416).f1, (rd_T34 x9_1 t416).f2, (rd_T34 x9_1 t416).f3, (rd_T34 x9_1 t416).f4, 1, (rd_T34 x9_1 t416).f6, (rd_T34 x9_1 t416).f7, (rd_T34 x9_1 t416).f8⟩ : S34) : List (S34))).bind fun y417 => ((some (y417.set (t416 : Int).toNat (⟨(rd_T34 y417 t416).f0, (rd_T34 y417 t416).f1, (rd_T34 y417 t416).f2, (rd_T34 y417 t416).f3, (wrap64 (1 + t409)), (rd_T34 y417 t416).f5, (rd_T34 y417 t416).f6, (rd_T34 y417 t416).f7, (rd_T34 y417 t416).f8⟩ : S34) : List (S34))).bind fun y418 => ((term_Told.f (wrap64 (2 + t407)) t408 5 y418).bind fun bt419 => ((some (y418.set (t416 : Int).toNat (⟨(rd_T34 y418 t416).f0, (rd_T34 y418 t416).f1, (rd_T34 y418 t416).f2, (rd_T34 y418 t416).f3, (rd_T34 y418 t416).f4, 0, (rd_T34 y418 t416).f6, (rd_T34 y418 t416).f7, (rd_T34 y418 t416).f8⟩ : S34) : List (S34))).bind fun y422 => ((term_Told.f (wrap64 (2 + t407)) t408 5 (y422.set (t416 : Int).toNat (⟨(rd_T34 y422 t416).f0, (rd_T34 y422 t416).f1, (rd_T34 y422 t416).f2, (rd_T34 y422 t416).f3, 0, (rd_T34 y422 t416).f5, (rd_T34 y422 t416).f6, (rd_T34 y422 t416).f7, (rd_T34 y422 t416).f8⟩ : S34))).bind fun bt424 => (if t415 = 0 then (if bt419.2.2 = 0 then (if bt424.2.2 = 0 then (if t413 = 3 then (if t414 = 0 then (corncriblaw21_TermTells.j1 k1 (wrap64 (1 + t409)) t408 t416 bt419.1 bt419.2.1 bt424.1 (bt424.2.1 != 0)) else (corncriblaw21_TermTells.j1 k1 (wrap64 (1 + t409)) t408 t416 bt419.1 bt419.2.1 bt424.1 true)) else (corncriblaw21_TermTells.j1 k1 (wrap64 (1 + t409)) t408 t416 bt419.1 bt419.2.1 bt424.1 true)) else (corncriblaw21_TermTells.j1 k1 (wrap64 (1 + t409)) t408 t416 bt419.1 bt419.2.1 bt424.1 true)) else (corncriblaw21_TermTells.j1 k1 (wrap64 (1 + t409)) t408 t416 bt419.1 bt419.2.1 bt424.1 true)) else (corncriblaw21_TermTells.j1 k1 (wrap64 (1 + t409)) t408 t416 bt419.1 bt419.2.1 bt424.1 true))))))) else (none)) else (none))) = some r := H
          have A15 := Aside0.mk A150
          clear A150
          replace H := Option.bind_eq_some_iff.mp H
          obtain ⟨t416, A160, H⟩ := H
          replace H : (if 0 ≤ t416 then (if t416 < (x9_1.length : Int) then ((some (x9_1.set (t416 : Int).toNat (⟨(rd_T34 x9_1 t416).f0, (rd_T34 x9_1 t416).f1, (rd_T34 x9_1 t416).f2, (rd_T34 x9_1 t416).f3, (rd_T34 x9_1 t416).f4, 1, (rd_T34 x9_1 t416).f6, (rd_T34 x9_1 t416).f7, (rd_T34 x9_1 t416).f8⟩ : S34) : List (S34))).bind fun y417 => ((some (y417.set (t416 : Int).toNat (⟨(rd_T34 y417 t416).f0, (rd_T34 y417 t416).f1, (rd_T34 y417 t416).f2, (rd_T34 y417 t416).f3, (wrap64 (1 + t409)), (rd_T34 y417 t416).f5, (rd_T34 y417 t416).f6, (rd_T34 y417 t416).f7, (rd_T34 y417 t416).f8⟩ : S34) : List (S34))).bind fun y418 => ((term_Told.f (wrap64 (2 + t407)) t408 5 y418).bind fun bt419 => ((some (y418.set (t416 : Int).toNat (⟨(rd_T34 y418 t416).f0, (rd_T34 y418 t416).f1, (rd_T34 y418 t416).f2, (rd_T34 y418 t416).f3, (rd_T34 y418 t416).f4, 0, (rd_T34 y418 t416).f6, (rd_T34 y418 t416).f7, (rd_T34 y418 t416).f8⟩ : S34) : List (S34))).bind fun y422 => ((term_Told.f (wrap64 (2 + t407)) t408 5 (y422.set (t416 : Int).toNat (⟨(rd_T34 y422 t416).f0, (rd_T34 y422 t416).f1, (rd_T34 y422 t416).f2, (rd_T34 y422 t416).f3, 0, (rd_T34 y422 t416).f5, (rd_T34 y422 t416).f6, (rd_T34 y422 t416).f7, (rd_T34 y422 t416).f8⟩ : S34))).bind fun bt424 => (if t415 = 0 then (if bt419.2.2 = 0 then (if bt424.2.2 = 0 then (if t413 = 3 then (if t414 = 0 then (corncriblaw21_TermTells.j1 k1 (wrap64 (1 + t409)) t408 t416 bt419.1 bt419.2.1 bt424.1 (bt424.2.1 != 0)) else (corncriblaw21_TermTells.j1 k1 (wrap64 (1 + t409)) t408 t416 bt419.1 bt419.2.1 bt424.1 true)) else (corncriblaw21_TermTells.j1 k1 (wrap64 (1 + t409)) t408 t416 bt419.1 bt419.2.1 bt424.1 true)) else (corncriblaw21_TermTells.j1 k1 (wrap64 (1 + t409)) t408 t416 bt419.1 bt419.2.1 bt424.1 true)) else (corncriblaw21_TermTells.j1 k1 (wrap64 (1 + t409)) t408 t416 bt419.1 bt419.2.1 bt424.1 true)) else (corncriblaw21_TermTells.j1 k1 (wrap64 (1 + t409)) t408 t416 bt419.1 bt419.2.1 bt424.1 true))))))) else (none)) else (none)) = some r := H
          have A16 := Aside0.mk A160
          clear A160
          by_cases c17 : 0 ≤ t416
          · rw [if_pos c17] at H
            have c17b0 : decide (0 ≤ t416) = true := decide_eq_true c17
            clear c17
            by_cases c18 : t416 < (x9_1.length : Int)
            · rw [if_pos c18] at H
              have c18b0 : decide (t416 < (x9_1.length : Int)) = true := decide_eq_true c18
              clear c18
              obtain ⟨y417, hy417⟩ : ∃ y_ : List (S34), y_ = (x9_1.set (t416 : Int).toNat (⟨(rd_T34 x9_1 t416).f0, (rd_T34 x9_1 t416).f1, (rd_T34 x9_1 t416).f2, (rd_T34 x9_1 t416).f3, (rd_T34 x9_1 t416).f4, 1, (rd_T34 x9_1 t416).f6, (rd_T34 x9_1 t416).f7, (rd_T34 x9_1 t416).f8⟩ : S34)) := ⟨_, rfl⟩
              replace H : ((some (y417.set (t416 : Int).toNat (⟨(rd_T34 y417 t416).f0, (rd_T34 y417 t416).f1, (rd_T34 y417 t416).f2, (rd_T34 y417 t416).f3, (wrap64 (1 + t409)), (rd_T34 y417 t416).f5, (rd_T34 y417 t416).f6, (rd_T34 y417 t416).f7, (rd_T34 y417 t416).f8⟩ : S34) : List (S34))).bind fun y418 => ((term_Told.f (wrap64 (2 + t407)) t408 5 y418).bind fun bt419 => ((some (y418.set (t416 : Int).toNat (⟨(rd_T34 y418 t416).f0, (rd_T34 y418 t416).f1, (rd_T34 y418 t416).f2, (rd_T34 y418 t416).f3, (rd_T34 y418 t416).f4, 0, (rd_T34 y418 t416).f6, (rd_T34 y418 t416).f7, (rd_T34 y418 t416).f8⟩ : S34) : List (S34))).bind fun y422 => ((term_Told.f (wrap64 (2 + t407)) t408 5 (y422.set (t416 : Int).toNat (⟨(rd_T34 y422 t416).f0, (rd_T34 y422 t416).f1, (rd_T34 y422 t416).f2, (rd_T34 y422 t416).f3, 0, (rd_T34 y422 t416).f5, (rd_T34 y422 t416).f6, (rd_T34 y422 t416).f7, (rd_T34 y422 t416).f8⟩ : S34))).bind fun bt424 => (if t415 = 0 then (if bt419.2.2 = 0 then (if bt424.2.2 = 0 then (if t413 = 3 then (if t414 = 0 then (corncriblaw21_TermTells.j1 k1 (wrap64 (1 + t409)) t408 t416 bt419.1 bt419.2.1 bt424.1 (bt424.2.1 != 0)) else (corncriblaw21_TermTells.j1 k1 (wrap64 (1 + t409)) t408 t416 bt419.1 bt419.2.1 bt424.1 true)) else (corncriblaw21_TermTells.j1 k1 (wrap64 (1 + t409)) t408 t416 bt419.1 bt419.2.1 bt424.1 true)) else (corncriblaw21_TermTells.j1 k1 (wrap64 (1 + t409)) t408 t416 bt419.1 bt419.2.1 bt424.1 true)) else (corncriblaw21_TermTells.j1 k1 (wrap64 (1 + t409)) t408 t416 bt419.1 bt419.2.1 bt424.1 true)) else (corncriblaw21_TermTells.j1 k1 (wrap64 (1 + t409)) t408 t416 bt419.1 bt419.2.1 bt424.1 true)))))) = some r := by first | (rw [hy417]; with_reducible exact H) | (have H2_ := (Option.bind_some _ _).symm.trans H; rw [hy417]; with_reducible exact H2_) | (have H2_ := (Option.bind_some _ _).symm.trans H; with_reducible exact H2_) | with_reducible exact H | (rw [hy417]; exact H) | exact H
              have Ny417 := Aside0.mk hy417
              clear hy417
              obtain ⟨y418, hy418⟩ : ∃ y_ : List (S34), y_ = (y417.set (t416 : Int).toNat (⟨(rd_T34 y417 t416).f0, (rd_T34 y417 t416).f1, (rd_T34 y417 t416).f2, (rd_T34 y417 t416).f3, (wrap64 (1 + t409)), (rd_T34 y417 t416).f5, (rd_T34 y417 t416).f6, (rd_T34 y417 t416).f7, (rd_T34 y417 t416).f8⟩ : S34)) := ⟨_, rfl⟩
              replace H : ((term_Told.f (wrap64 (2 + t407)) t408 5 y418).bind fun bt419 => ((some (y418.set (t416 : Int).toNat (⟨(rd_T34 y418 t416).f0, (rd_T34 y418 t416).f1, (rd_T34 y418 t416).f2, (rd_T34 y418 t416).f3, (rd_T34 y418 t416).f4, 0, (rd_T34 y418 t416).f6, (rd_T34 y418 t416).f7, (rd_T34 y418 t416).f8⟩ : S34) : List (S34))).bind fun y422 => ((term_Told.f (wrap64 (2 + t407)) t408 5 (y422.set (t416 : Int).toNat (⟨(rd_T34 y422 t416).f0, (rd_T34 y422 t416).f1, (rd_T34 y422 t416).f2, (rd_T34 y422 t416).f3, 0, (rd_T34 y422 t416).f5, (rd_T34 y422 t416).f6, (rd_T34 y422 t416).f7, (rd_T34 y422 t416).f8⟩ : S34))).bind fun bt424 => (if t415 = 0 then (if bt419.2.2 = 0 then (if bt424.2.2 = 0 then (if t413 = 3 then (if t414 = 0 then (corncriblaw21_TermTells.j1 k1 (wrap64 (1 + t409)) t408 t416 bt419.1 bt419.2.1 bt424.1 (bt424.2.1 != 0)) else (corncriblaw21_TermTells.j1 k1 (wrap64 (1 + t409)) t408 t416 bt419.1 bt419.2.1 bt424.1 true)) else (corncriblaw21_TermTells.j1 k1 (wrap64 (1 + t409)) t408 t416 bt419.1 bt419.2.1 bt424.1 true)) else (corncriblaw21_TermTells.j1 k1 (wrap64 (1 + t409)) t408 t416 bt419.1 bt419.2.1 bt424.1 true)) else (corncriblaw21_TermTells.j1 k1 (wrap64 (1 + t409)) t408 t416 bt419.1 bt419.2.1 bt424.1 true)) else (corncriblaw21_TermTells.j1 k1 (wrap64 (1 + t409)) t408 t416 bt419.1 bt419.2.1 bt424.1 true))))) = some r := by first | (rw [hy418]; with_reducible exact H) | (have H2_ := (Option.bind_some _ _).symm.trans H; rw [hy418]; with_reducible exact H2_) | (have H2_ := (Option.bind_some _ _).symm.trans H; with_reducible exact H2_) | with_reducible exact H | (rw [hy418]; exact H) | exact H
              have Ny418 := Aside0.mk hy418
              clear hy418
              replace H := Option.bind_eq_some_iff.mp H
              obtain ⟨⟨t419, t420, t421⟩, A210, H⟩ := H
              replace H : ((some (y418.set (t416 : Int).toNat (⟨(rd_T34 y418 t416).f0, (rd_T34 y418 t416).f1, (rd_T34 y418 t416).f2, (rd_T34 y418 t416).f3, (rd_T34 y418 t416).f4, 0, (rd_T34 y418 t416).f6, (rd_T34 y418 t416).f7, (rd_T34 y418 t416).f8⟩ : S34) : List (S34))).bind fun y422 => ((term_Told.f (wrap64 (2 + t407)) t408 5 (y422.set (t416 : Int).toNat (⟨(rd_T34 y422 t416).f0, (rd_T34 y422 t416).f1, (rd_T34 y422 t416).f2, (rd_T34 y422 t416).f3, 0, (rd_T34 y422 t416).f5, (rd_T34 y422 t416).f6, (rd_T34 y422 t416).f7, (rd_T34 y422 t416).f8⟩ : S34))).bind fun bt424 => (if t415 = 0 then (if t421 = 0 then (if bt424.2.2 = 0 then (if t413 = 3 then (if t414 = 0 then (corncriblaw21_TermTells.j1 k1 (wrap64 (1 + t409)) t408 t416 t419 t420 bt424.1 (bt424.2.1 != 0)) else (corncriblaw21_TermTells.j1 k1 (wrap64 (1 + t409)) t408 t416 t419 t420 bt424.1 true)) else (corncriblaw21_TermTells.j1 k1 (wrap64 (1 + t409)) t408 t416 t419 t420 bt424.1 true)) else (corncriblaw21_TermTells.j1 k1 (wrap64 (1 + t409)) t408 t416 t419 t420 bt424.1 true)) else (corncriblaw21_TermTells.j1 k1 (wrap64 (1 + t409)) t408 t416 t419 t420 bt424.1 true)) else (corncriblaw21_TermTells.j1 k1 (wrap64 (1 + t409)) t408 t416 t419 t420 bt424.1 true)))) = some r := H
              have A21 := Aside0.mk A210
              clear A210
              obtain ⟨y422, hy422⟩ : ∃ y_ : List (S34), y_ = (y418.set (t416 : Int).toNat (⟨(rd_T34 y418 t416).f0, (rd_T34 y418 t416).f1, (rd_T34 y418 t416).f2, (rd_T34 y418 t416).f3, (rd_T34 y418 t416).f4, 0, (rd_T34 y418 t416).f6, (rd_T34 y418 t416).f7, (rd_T34 y418 t416).f8⟩ : S34)) := ⟨_, rfl⟩
              replace H : ((term_Told.f (wrap64 (2 + t407)) t408 5 (y422.set (t416 : Int).toNat (⟨(rd_T34 y422 t416).f0, (rd_T34 y422 t416).f1, (rd_T34 y422 t416).f2, (rd_T34 y422 t416).f3, 0, (rd_T34 y422 t416).f5, (rd_T34 y422 t416).f6, (rd_T34 y422 t416).f7, (rd_T34 y422 t416).f8⟩ : S34))).bind fun bt424 => (if t415 = 0 then (if t421 = 0 then (if bt424.2.2 = 0 then (if t413 = 3 then (if t414 = 0 then (corncriblaw21_TermTells.j1 k1 (wrap64 (1 + t409)) t408 t416 t419 t420 bt424.1 (bt424.2.1 != 0)) else (corncriblaw21_TermTells.j1 k1 (wrap64 (1 + t409)) t408 t416 t419 t420 bt424.1 true)) else (corncriblaw21_TermTells.j1 k1 (wrap64 (1 + t409)) t408 t416 t419 t420 bt424.1 true)) else (corncriblaw21_TermTells.j1 k1 (wrap64 (1 + t409)) t408 t416 t419 t420 bt424.1 true)) else (corncriblaw21_TermTells.j1 k1 (wrap64 (1 + t409)) t408 t416 t419 t420 bt424.1 true)) else (corncriblaw21_TermTells.j1 k1 (wrap64 (1 + t409)) t408 t416 t419 t420 bt424.1 true))) = some r := by first | (rw [hy422]; with_reducible exact H) | (have H2_ := (Option.bind_some _ _).symm.trans H; rw [hy422]; with_reducible exact H2_) | (have H2_ := (Option.bind_some _ _).symm.trans H; with_reducible exact H2_) | with_reducible exact H | (rw [hy422]; exact H) | exact H
              have Ny422 := Aside0.mk hy422
              clear hy422
              obtain ⟨y423, hy423⟩ : ∃ y_ : List (S34), y_ = (y422.set (t416 : Int).toNat (⟨(rd_T34 y422 t416).f0, (rd_T34 y422 t416).f1, (rd_T34 y422 t416).f2, (rd_T34 y422 t416).f3, 0, (rd_T34 y422 t416).f5, (rd_T34 y422 t416).f6, (rd_T34 y422 t416).f7, (rd_T34 y422 t416).f8⟩ : S34)) := ⟨_, rfl⟩
              replace H : ((term_Told.f (wrap64 (2 + t407)) t408 5 y423).bind fun bt424 => (if t415 = 0 then (if t421 = 0 then (if bt424.2.2 = 0 then (if t413 = 3 then (if t414 = 0 then (corncriblaw21_TermTells.j1 k1 (wrap64 (1 + t409)) t408 t416 t419 t420 bt424.1 (bt424.2.1 != 0)) else (corncriblaw21_TermTells.j1 k1 (wrap64 (1 + t409)) t408 t416 t419 t420 bt424.1 true)) else (corncriblaw21_TermTells.j1 k1 (wrap64 (1 + t409)) t408 t416 t419 t420 bt424.1 true)) else (corncriblaw21_TermTells.j1 k1 (wrap64 (1 + t409)) t408 t416 t419 t420 bt424.1 true)) else (corncriblaw21_TermTells.j1 k1 (wrap64 (1 + t409)) t408 t416 t419 t420 bt424.1 true)) else (corncriblaw21_TermTells.j1 k1 (wrap64 (1 + t409)) t408 t416 t419 t420 bt424.1 true))) = some r := by first | (rw [hy423]; with_reducible exact H) | (have H2_ := (Option.bind_some _ _).symm.trans H; rw [hy423]; with_reducible exact H2_) | (have H2_ := (Option.bind_some _ _).symm.trans H; with_reducible exact H2_) | with_reducible exact H | (rw [hy423]; exact H) | exact H
              have Ny423 := Aside0.mk hy423
              clear hy423
              replace H := Option.bind_eq_some_iff.mp H
              obtain ⟨⟨t424, t425, t426⟩, A240, H⟩ := H
              replace H : (if t415 = 0 then (if t421 = 0 then (if t426 = 0 then (if t413 = 3 then (if t414 = 0 then (corncriblaw21_TermTells.j1 k1 (wrap64 (1 + t409)) t408 t416 t419 t420 t424 (t425 != 0)) else (corncriblaw21_TermTells.j1 k1 (wrap64 (1 + t409)) t408 t416 t419 t420 t424 true)) else (corncriblaw21_TermTells.j1 k1 (wrap64 (1 + t409)) t408 t416 t419 t420 t424 true)) else (corncriblaw21_TermTells.j1 k1 (wrap64 (1 + t409)) t408 t416 t419 t420 t424 true)) else (corncriblaw21_TermTells.j1 k1 (wrap64 (1 + t409)) t408 t416 t419 t420 t424 true)) else (corncriblaw21_TermTells.j1 k1 (wrap64 (1 + t409)) t408 t416 t419 t420 t424 true)) = some r := H
              have A24 := Aside0.mk A240
              clear A240
              have HC25 := Aside0.mk H
              clear H
              obtain ⟨Ao26, co26, eo26⟩ := Kd.S_slice HO_9.out
              subst eo26
              go_upto_region 17 with (first | ((with_reducible refine gate_callee (f := 18) rfl ?_); refine goesL_ (some 49) rfl rfl Try.func18 (by kernel_rfl) rfl #[.int .i64 (wrap64 (2 + t407)), .int .i64 t408, .int .i64 5, .slice Ao26 x9_1.length co26] rfl (by (try simp only [List.map_toArray, List.map_cons, List.map_nil]); first | done | rfl | (simp only [List.length_drop, List.length_take]; rfl)) ?_; (with_reducible refine (term_Told.calls (wrap64 (2 + t407)) t408 5 _ _ x9_1 t413 t414 t415 _ ?side1 ?side2 A15.out).mono ?_); (case side1 => repeat (first | exact (Kd.S_reads' HO_9.out).2.2 | (with_reducible refine Kd.C_alloc ?_ _) | (with_reducible refine Kd.C_drewN ?_ _) | (with_reducible refine Kd.C_drew ?_))); (case side2 => exact (Kd.S_reads' HO_9.out).2.1); rintro e w27 ⟨rfl, hb⟩; refine ⟨_, rfl, ?_⟩; have n0_ := Aside0.mk (Kd.S_below (by (with_reducible repeat (first | apply Kd.S_alloc | apply Kd.S_drewN | apply Kd.S_drew)); exact HO_9.out) hb); have n1_ := Aside0.mk (blk_below (g := gb405) (o := .cells #[.int .i64 a0_0, .int .i64 a0_1, .int .i64 a0_2] 23 (0, 0)) (by (with_reducible repeat (first | refine blk_drewN ?_ _ | refine blk_drew ?_ | refine blk_alloc ?_ _)); exact BK405.out) hb); have n2_ := Aside0.mk (below_step (by repeat (first | (with_reducible first | exact HB.out | apply below_alloc | apply pw_below_drewN | apply below_drew1 | refine below_set ?_ GE405.out) | exact HB.out)) hb); clear HO_9; clear BK405; clear HB; have HO_9 := n0_; have BK405 := n1_; have HB := n2_; clear n0_ n1_ n2_; (try clear hb); (try clear hb2); (try clear hk); (try clear hi)) | ((with_reducible refine gate_callee (f := 9) rfl ?_); refine goesL_ (some 55) rfl rfl Try.func9 (by kernel_rfl) rfl #[.int .i64 a1, .int .i64 (wrap64 (2 + t407))] rfl (by (try simp only [List.map_toArray, List.map_cons, List.map_nil]); first | done | rfl | (simp only [List.length_drop, List.length_take]; rfl)) ?_; (with_reducible refine (corncribbook_Among.calls a1 (wrap64 (2 + t407)) t416 _ A16.out).mono ?_); rintro e w' ⟨rfl, ⟨nd, rfl⟩⟩; refine ⟨_, rfl, ?_⟩; (try (rw [drewN_self w27]; generalize hq_ : World.drewN w27 _ = w27; have n0_ : Aside0 (Kd.S k34 34 w27 w.heap.size (fun _ => True) (.slice Ao26 x9_1.length co26) x9_1) := ⟨by rw [← hq_]; exact (by (with_reducible repeat (first | apply Kd.S_alloc | apply Kd.S_drewN | apply Kd.S_drew)); exact HO_9.out)⟩; have n1_ : Aside0 (w27.heap[gb405]? = some (.cells #[.int .i64 a0_0, .int .i64 a0_1, .int .i64 a0_2] 23 (0, 0))) := ⟨by rw [← hq_]; exact (by (with_reducible repeat (first | refine blk_drewN ?_ _ | refine blk_drew ?_ | refine blk_alloc ?_ _)); exact BK405.out)⟩; have n2_ : Aside0 (Below w.heap.size w w27) := ⟨by rw [← hq_]; exact (by repeat (first | (with_reducible first | exact HB.out | apply below_alloc | apply pw_below_drewN | apply below_drew1 | refine below_set ?_ GE405.out) | exact HB.out))⟩; clear HO_9 BK405 HB hq_; have HO_9 := n0_; have BK405 := n1_; have HB := n2_; clear n0_ n1_ n2_)); have p19 : 0 ≤ (t416 : Int) := of_decide_eq_true (by first | (with_reducible assumption) | assumption); have q19 : (t416 : Int) < ((x9_1.length : Int) : Int) := of_decide_eq_true (by first | (with_reducible assumption) | assumption); obtain ⟨go19, co19, eo19, gb19, gl19, cl19, HG19⟩ := Kd.S_form HO_9.out (by omega); (first | cases eo19 | (injection eo19 with ea_ en_ ec_; (first | subst ea_ | (injection ea_ with ea_; subst ea_)); subst ec_; clear en_)); have GB19 := Aside0.mk gb19; have GG19 := Aside0.mk HG19; clear gb19 gl19 HG19; obtain ⟨_, ce19, hcl19, hM19, hcc19, hfr19, _, _⟩ := Kd.S_elem HO_9.out z34 (t416 : Int) p19 q19; obtain ⟨ve19_7, ve19_8, rfl, ge19_7, ge19_8⟩ := k34_openM hM19; have hx19_0 : w27.cell? ⟨go19, (t416 : Int).toNat * 9, none⟩ = some (.int .i64 ((rd_T34 x9_1 t416).f0)) := hcc19 0 _ rfl; have hx19_1 : w27.cell? ⟨go19, (t416 : Int).toNat * 9 + 1, none⟩ = some (.int .i64 ((rd_T34 x9_1 t416).f1)) := hcc19 1 _ rfl; have hx19_2 : w27.cell? ⟨go19, (t416 : Int).toNat * 9 + 2, none⟩ = some (.int .i64 ((rd_T34 x9_1 t416).f2)) := hcc19 2 _ rfl; have hx19_3 : w27.cell? ⟨go19, (t416 : Int).toNat * 9 + 3, none⟩ = some (.int .i64 ((rd_T34 x9_1 t416).f3)) := hcc19 3 _ rfl; have hx19_4 : w27.cell? ⟨go19, (t416 : Int).toNat * 9 + 4, none⟩ = some (.int .i64 ((rd_T34 x9_1 t416).f4)) := hcc19 4 _ rfl; have hx19_5 : w27.cell? ⟨go19, (t416 : Int).toNat * 9 + 5, none⟩ = some (.int .i64 ((rd_T34 x9_1 t416).f5)) := hcc19 5 _ rfl; have hx19_6 : w27.cell? ⟨go19, (t416 : Int).toNat * 9 + 6, none⟩ = some (.string ((rd_T34 x9_1 t416).f6)) := hcc19 6 _ rfl; have hx19_7 : w27.cell? ⟨go19, (t416 : Int).toNat * 9 + 7, none⟩ = some (ve19_7) := hcc19 7 _ rfl; have hx19_8 : w27.cell? ⟨go19, (t416 : Int).toNat * 9 + 8, none⟩ = some (ve19_8) := hcc19 8 _ rfl; have hf19_0 : w27.frozen? ⟨go19, (t416 : Int).toNat * 9, none⟩ = false := hfr19 0; have hf19_1 : w27.frozen? ⟨go19, (t416 : Int).toNat * 9 + 1, none⟩ = false := hfr19 1; have hf19_2 : w27.frozen? ⟨go19, (t416 : Int).toNat * 9 + 2, none⟩ = false := hfr19 2; have hf19_3 : w27.frozen? ⟨go19, (t416 : Int).toNat * 9 + 3, none⟩ = false := hfr19 3; have hf19_4 : w27.frozen? ⟨go19, (t416 : Int).toNat * 9 + 4, none⟩ = false := hfr19 4; have hf19_5 : w27.frozen? ⟨go19, (t416 : Int).toNat * 9 + 5, none⟩ = false := hfr19 5; have hf19_6 : w27.frozen? ⟨go19, (t416 : Int).toNat * 9 + 6, none⟩ = false := hfr19 6; have hf19_7 : w27.frozen? ⟨go19, (t416 : Int).toNat * 9 + 7, none⟩ = false := hfr19 7; have hf19_8 : w27.frozen? ⟨go19, (t416 : Int).toNat * 9 + 8, none⟩ = false := hfr19 8; clear hcl19 hcc19 hfr19 hM19; replace p19 := eq_true p19; replace q19 := eq_true q19; have HX28 := Aside0.mk (show Kd.S k34 34 w27 w.heap.size (fun k_ => ((fun _ => True)) k_ ∧ ¬ ((fun _ => False)) k_) (.slice (some ⟨go19, 0, none⟩) x9_1.length co26) x9_1 from (by (with_reducible repeat (first | apply Kd.S_alloc | apply Kd.S_drewN | apply Kd.S_drew)); exact Kd.S_mono HO_9.out (fun k_ hk => ⟨trivial, fun e_ => e_⟩))); obtain ⟨oki28, ce28, hcl28, hM28, hcc28, hfr28, hoki28, hH28⟩ := Kd.S_elem HX28.out z34 (t416 : Int) (of_decide_eq_true (by first | (with_reducible assumption) | assumption)) (by have h_ : (t416 : Int) < ((x9_1.length : Int) : Int) := of_decide_eq_true (by first | (with_reducible assumption) | assumption); first | exact h_ | (have e_ := (Kd.S_reads' HO_9.out).1; omega) | simpa using h_); obtain ⟨ve28_7, ve28_8, rfl, ge28_7, ge28_8⟩ := k34_openM hM28; have HP28 := Kd.S_seg hH28 (of_decide_eq_true (by first | (with_reducible assumption) | assumption)) (by have h_ : (t416 : Int) < ((x9_1.length : Int) : Int) := of_decide_eq_true (by first | (with_reducible assumption) | assumption); first | exact h_ | (have e_ := (Kd.S_reads' HO_9.out).1; omega) | simpa using h_) (seg := [.int .i64 1]) (j := 5) (show 6 ≤ 9 from by decide) (x' := (⟨(rd_T34 x9_1 t416).f0, (rd_T34 x9_1 t416).f1, (rd_T34 x9_1 t416).f2, (rd_T34 x9_1 t416).f3, (rd_T34 x9_1 t416).f4, 1, (rd_T34 x9_1 t416).f6, (rd_T34 x9_1 t416).f7, (rd_T34 x9_1 t416).f8⟩ : S34)) (k34_mkM _ _ _ (⟨(rd_T34 x9_1 t416).f0, (rd_T34 x9_1 t416).f1, (rd_T34 x9_1 t416).f2, (rd_T34 x9_1 t416).f3, (rd_T34 x9_1 t416).f4, 1, (rd_T34 x9_1 t416).f6, (rd_T34 x9_1 t416).f7, (rd_T34 x9_1 t416).f8⟩ : S34) (Kd.R_mono ge28_7 (fun _ h_ => Or.inl h_)) (Kd.R_mono ge28_8 (fun _ h_ => Or.inl h_))) (fun _ hk => hk) (fun k_ hk_ => hk_.elim); have hx28_5 := hcc28 5 _ rfl; (try simp only [show (k34).sz = 9 from rfl, Nat.mul_one, Nat.add_zero] at hx28_5); have hf28_5 := hfr28 5; (try simp only [show (k34).sz = 9 from rfl, Nat.mul_one, Nat.add_zero] at hf28_5); clear hcl28 hcc28 hfr28 hM28 hoki28 hH28) | ((with_reducible refine gate_store (t := 3) (p := 62) rfl ?_); refine store_event (t := 3) (p := 62) (v := ?vo_w29) (w1 := (w27.setCell ⟨go19, (t416 : Int).toNat * 9 + 5, none⟩ (.int .i64 1))) ?hg ?ho ?hn ?hr ?_; (case ho => rfl); (case hg => rfl); (case hn => rfl); (case hr => first | (go_simp; done) | (go_simp; rfl)); intro w29 hw; have hg : w27.grownBy w29 (some go19) := (by rw [hw]; exact HP28.2); have hp_ : Kd.S k34 34 w29 w.heap.size (fun _ => True) (.slice (some ⟨go19, 0, none⟩) x9_1.length co26) y417 := (by rw [hw, Ny417.out]; exact HP28.1); clear HP28; have n0_ := Aside0.mk (hp_); have n1_ := Aside0.mk (blk_grown (g := gb405) (o := .cells #[.int .i64 a0_0, .int .i64 a0_1, .int .i64 a0_2] 23 (0, 0)) (by (with_reducible repeat (first | refine blk_drewN ?_ _ | refine blk_drew ?_ | refine blk_alloc ?_ _)); exact BK405.out) hg (Kd.S_ne HO_9.out BK405.out (by decide))); have n2_ := Aside0.mk ((by rw [hw]; exact below_set (HB.out) GB19.out : Below w.heap.size w w29)); clear HO_9; clear BK405; clear HB; have HO_9 := n0_; have BK405 := n1_; have HB := n2_; clear n0_ n1_ n2_; clear hg hw hp_; have p20 : 0 ≤ (t416 : Int) := of_decide_eq_true (by first | (with_reducible assumption) | assumption); have q20 : (t416 : Int) < ((x9_1.length : Int) : Int) := of_decide_eq_true (by first | (with_reducible assumption) | assumption); obtain ⟨_, ce20, hcl20, hM20, hcc20, hfr20, _, _⟩ := Kd.S_elem HO_9.out z34 (t416 : Int) p20 q20; obtain ⟨ve20_7, ve20_8, rfl, ge20_7, ge20_8⟩ := k34_openM hM20; have hx20_0 : w29.cell? ⟨go19, (t416 : Int).toNat * 9, none⟩ = some (.int .i64 ((rd_T34 y417 t416).f0)) := hcc20 0 _ rfl; have hx20_1 : w29.cell? ⟨go19, (t416 : Int).toNat * 9 + 1, none⟩ = some (.int .i64 ((rd_T34 y417 t416).f1)) := hcc20 1 _ rfl; have hx20_2 : w29.cell? ⟨go19, (t416 : Int).toNat * 9 + 2, none⟩ = some (.int .i64 ((rd_T34 y417 t416).f2)) := hcc20 2 _ rfl; have hx20_3 : w29.cell? ⟨go19, (t416 : Int).toNat * 9 + 3, none⟩ = some (.int .i64 ((rd_T34 y417 t416).f3)) := hcc20 3 _ rfl; have hx20_4 : w29.cell? ⟨go19, (t416 : Int).toNat * 9 + 4, none⟩ = some (.int .i64 ((rd_T34 y417 t416).f4)) := hcc20 4 _ rfl; have hx20_5 : w29.cell? ⟨go19, (t416 : Int).toNat * 9 + 5, none⟩ = some (.int .i64 ((rd_T34 y417 t416).f5)) := hcc20 5 _ rfl; have hx20_6 : w29.cell? ⟨go19, (t416 : Int).toNat * 9 + 6, none⟩ = some (.string ((rd_T34 y417 t416).f6)) := hcc20 6 _ rfl; have hx20_7 : w29.cell? ⟨go19, (t416 : Int).toNat * 9 + 7, none⟩ = some (ve20_7) := hcc20 7 _ rfl; have hx20_8 : w29.cell? ⟨go19, (t416 : Int).toNat * 9 + 8, none⟩ = some (ve20_8) := hcc20 8 _ rfl; have hf20_0 : w29.frozen? ⟨go19, (t416 : Int).toNat * 9, none⟩ = false := hfr20 0; have hf20_1 : w29.frozen? ⟨go19, (t416 : Int).toNat * 9 + 1, none⟩ = false := hfr20 1; have hf20_2 : w29.frozen? ⟨go19, (t416 : Int).toNat * 9 + 2, none⟩ = false := hfr20 2; have hf20_3 : w29.frozen? ⟨go19, (t416 : Int).toNat * 9 + 3, none⟩ = false := hfr20 3; have hf20_4 : w29.frozen? ⟨go19, (t416 : Int).toNat * 9 + 4, none⟩ = false := hfr20 4; have hf20_5 : w29.frozen? ⟨go19, (t416 : Int).toNat * 9 + 5, none⟩ = false := hfr20 5; have hf20_6 : w29.frozen? ⟨go19, (t416 : Int).toNat * 9 + 6, none⟩ = false := hfr20 6; have hf20_7 : w29.frozen? ⟨go19, (t416 : Int).toNat * 9 + 7, none⟩ = false := hfr20 7; have hf20_8 : w29.frozen? ⟨go19, (t416 : Int).toNat * 9 + 8, none⟩ = false := hfr20 8; clear hcl20 hcc20 hfr20 hM20; replace p20 := eq_true p20; replace q20 := eq_true q20; have HX30 := Aside0.mk (show Kd.S k34 34 w29 w.heap.size (fun k_ => ((fun _ => True)) k_ ∧ ¬ ((fun _ => False)) k_) (.slice (some ⟨go19, 0, none⟩) x9_1.length co26) y417 from (by (with_reducible repeat (first | apply Kd.S_alloc | apply Kd.S_drewN | apply Kd.S_drew)); exact Kd.S_mono HO_9.out (fun k_ hk => ⟨trivial, fun e_ => e_⟩))); obtain ⟨oki30, ce30, hcl30, hM30, hcc30, hfr30, hoki30, hH30⟩ := Kd.S_elem HX30.out z34 (t416 : Int) (of_decide_eq_true (by first | (with_reducible assumption) | assumption)) (by have h_ : (t416 : Int) < ((x9_1.length : Int) : Int) := of_decide_eq_true (by first | (with_reducible assumption) | assumption); first | exact h_ | (have e_ := (Kd.S_reads' HO_9.out).1; omega) | simpa using h_); obtain ⟨ve30_7, ve30_8, rfl, ge30_7, ge30_8⟩ := k34_openM hM30; have HP30 := Kd.S_seg hH30 (of_decide_eq_true (by first | (with_reducible assumption) | assumption)) (by have h_ : (t416 : Int) < ((x9_1.length : Int) : Int) := of_decide_eq_true (by first | (with_reducible assumption) | assumption); first | exact h_ | (have e_ := (Kd.S_reads' HO_9.out).1; omega) | simpa using h_) (seg := [.int .i64 (wrap64 (1 + t409))]) (j := 4) (show 5 ≤ 9 from by decide) (x' := (⟨(rd_T34 y417 t416).f0, (rd_T34 y417 t416).f1, (rd_T34 y417 t416).f2, (rd_T34 y417 t416).f3, (wrap64 (1 + t409)), (rd_T34 y417 t416).f5, (rd_T34 y417 t416).f6, (rd_T34 y417 t416).f7, (rd_T34 y417 t416).f8⟩ : S34)) (k34_mkM _ _ _ (⟨(rd_T34 y417 t416).f0, (rd_T34 y417 t416).f1, (rd_T34 y417 t416).f2, (rd_T34 y417 t416).f3, (wrap64 (1 + t409)), (rd_T34 y417 t416).f5, (rd_T34 y417 t416).f6, (rd_T34 y417 t416).f7, (rd_T34 y417 t416).f8⟩ : S34) (Kd.R_mono ge30_7 (fun _ h_ => Or.inl h_)) (Kd.R_mono ge30_8 (fun _ h_ => Or.inl h_))) (fun _ hk => hk) (fun k_ hk_ => hk_.elim); have hx30_4 := hcc30 4 _ rfl; (try simp only [show (k34).sz = 9 from rfl, Nat.mul_one, Nat.add_zero] at hx30_4); have hf30_4 := hfr30 4; (try simp only [show (k34).sz = 9 from rfl, Nat.mul_one, Nat.add_zero] at hf30_4); clear hcl30 hcc30 hfr30 hM30 hoki30 hH30) | ((with_reducible refine gate_store (t := 3) (p := 64) rfl ?_); refine store_event (t := 3) (p := 64) (v := ?vo_w31) (w1 := (w29.setCell ⟨go19, (t416 : Int).toNat * 9 + 4, none⟩ (.int .i64 (wrap64 (1 + t409))))) ?hg ?ho ?hn ?hr ?_; (case ho => rfl); (case hg => rfl); (case hn => rfl); (case hr => first | (go_simp; done) | (go_simp; rfl)); intro w31 hw; have hg : w29.grownBy w31 (some go19) := (by rw [hw]; exact HP30.2); have hp_ : Kd.S k34 34 w31 w.heap.size (fun _ => True) (.slice (some ⟨go19, 0, none⟩) x9_1.length co26) y418 := (by rw [hw, Ny418.out]; exact HP30.1); clear HP30; have n0_ := Aside0.mk (hp_); have n1_ := Aside0.mk (blk_grown (g := gb405) (o := .cells #[.int .i64 a0_0, .int .i64 a0_1, .int .i64 a0_2] 23 (0, 0)) (by (with_reducible repeat (first | refine blk_drewN ?_ _ | refine blk_drew ?_ | refine blk_alloc ?_ _)); exact BK405.out) hg (Kd.S_ne HO_9.out BK405.out (by decide))); have n2_ := Aside0.mk ((by rw [hw]; exact below_set (HB.out) GB19.out : Below w.heap.size w w31)); clear HO_9; clear BK405; clear HB; have HO_9 := n0_; have BK405 := n1_; have HB := n2_; clear n0_ n1_ n2_; clear hg hw hp_) | ((with_reducible refine gate_callee (f := 18) rfl ?_); refine goesL_ (some 69) rfl rfl Try.func18 (by kernel_rfl) rfl #[.int .i64 (wrap64 (2 + t407)), .int .i64 t408, .int .i64 5, .slice (some ⟨go19, 0, none⟩) y418.length co26] rfl (by (try simp only [List.map_toArray, List.map_cons, List.map_nil]); first | done | (rw [show y418.length = x9_1.length from (Kd.S_reads' HO_9.out).1.symm] <;> rfl) | rfl | (simp only [List.length_drop, List.length_take]; rfl)) ?_; (with_reducible refine (term_Told.calls (wrap64 (2 + t407)) t408 5 _ _ y418 t419 t420 t421 _ ?side1 ?side2 A21.out).mono ?_); (case side1 => repeat (first | exact (Kd.S_reads' HO_9.out).2.2 | (with_reducible refine Kd.C_alloc ?_ _) | (with_reducible refine Kd.C_drewN ?_ _) | (with_reducible refine Kd.C_drew ?_))); (case side2 => rw [show y418.length = x9_1.length from (Kd.S_reads' HO_9.out).1.symm]; exact (Kd.S_reads' HO_9.out).2.1); rintro e w32 ⟨rfl, hb⟩; refine ⟨_, rfl, ?_⟩; have n0_ := Aside0.mk (Kd.S_below (by (with_reducible repeat (first | apply Kd.S_alloc | apply Kd.S_drewN | apply Kd.S_drew)); exact HO_9.out) hb); have n1_ := Aside0.mk (blk_below (g := gb405) (o := .cells #[.int .i64 a0_0, .int .i64 a0_1, .int .i64 a0_2] 23 (0, 0)) (by (with_reducible repeat (first | refine blk_drewN ?_ _ | refine blk_drew ?_ | refine blk_alloc ?_ _)); exact BK405.out) hb); have n2_ := Aside0.mk (below_step (by repeat (first | (with_reducible first | exact HB.out | apply below_alloc | apply pw_below_drewN | apply below_drew1 | refine below_set ?_ GE405.out) | exact HB.out)) hb); clear HO_9; clear BK405; clear HB; have HO_9 := n0_; have BK405 := n1_; have HB := n2_; clear n0_ n1_ n2_; (try clear hb); (try clear hb2); (try clear hk); (try clear hi); have p22 : 0 ≤ (t416 : Int) := of_decide_eq_true (by first | (with_reducible assumption) | assumption); have q22 : (t416 : Int) < ((x9_1.length : Int) : Int) := of_decide_eq_true (by first | (with_reducible assumption) | assumption); obtain ⟨_, ce22, hcl22, hM22, hcc22, hfr22, _, _⟩ := Kd.S_elem HO_9.out z34 (t416 : Int) p22 q22; obtain ⟨ve22_7, ve22_8, rfl, ge22_7, ge22_8⟩ := k34_openM hM22; have hx22_0 : w32.cell? ⟨go19, (t416 : Int).toNat * 9, none⟩ = some (.int .i64 ((rd_T34 y418 t416).f0)) := hcc22 0 _ rfl; have hx22_1 : w32.cell? ⟨go19, (t416 : Int).toNat * 9 + 1, none⟩ = some (.int .i64 ((rd_T34 y418 t416).f1)) := hcc22 1 _ rfl; have hx22_2 : w32.cell? ⟨go19, (t416 : Int).toNat * 9 + 2, none⟩ = some (.int .i64 ((rd_T34 y418 t416).f2)) := hcc22 2 _ rfl; have hx22_3 : w32.cell? ⟨go19, (t416 : Int).toNat * 9 + 3, none⟩ = some (.int .i64 ((rd_T34 y418 t416).f3)) := hcc22 3 _ rfl; have hx22_4 : w32.cell? ⟨go19, (t416 : Int).toNat * 9 + 4, none⟩ = some (.int .i64 ((rd_T34 y418 t416).f4)) := hcc22 4 _ rfl; have hx22_5 : w32.cell? ⟨go19, (t416 : Int).toNat * 9 + 5, none⟩ = some (.int .i64 ((rd_T34 y418 t416).f5)) := hcc22 5 _ rfl; have hx22_6 : w32.cell? ⟨go19, (t416 : Int).toNat * 9 + 6, none⟩ = some (.string ((rd_T34 y418 t416).f6)) := hcc22 6 _ rfl; have hx22_7 : w32.cell? ⟨go19, (t416 : Int).toNat * 9 + 7, none⟩ = some (ve22_7) := hcc22 7 _ rfl; have hx22_8 : w32.cell? ⟨go19, (t416 : Int).toNat * 9 + 8, none⟩ = some (ve22_8) := hcc22 8 _ rfl; have hf22_0 : w32.frozen? ⟨go19, (t416 : Int).toNat * 9, none⟩ = false := hfr22 0; have hf22_1 : w32.frozen? ⟨go19, (t416 : Int).toNat * 9 + 1, none⟩ = false := hfr22 1; have hf22_2 : w32.frozen? ⟨go19, (t416 : Int).toNat * 9 + 2, none⟩ = false := hfr22 2; have hf22_3 : w32.frozen? ⟨go19, (t416 : Int).toNat * 9 + 3, none⟩ = false := hfr22 3; have hf22_4 : w32.frozen? ⟨go19, (t416 : Int).toNat * 9 + 4, none⟩ = false := hfr22 4; have hf22_5 : w32.frozen? ⟨go19, (t416 : Int).toNat * 9 + 5, none⟩ = false := hfr22 5; have hf22_6 : w32.frozen? ⟨go19, (t416 : Int).toNat * 9 + 6, none⟩ = false := hfr22 6; have hf22_7 : w32.frozen? ⟨go19, (t416 : Int).toNat * 9 + 7, none⟩ = false := hfr22 7; have hf22_8 : w32.frozen? ⟨go19, (t416 : Int).toNat * 9 + 8, none⟩ = false := hfr22 8; clear hcl22 hcc22 hfr22 hM22; replace p22 := eq_true p22; replace q22 := eq_true q22; have HX33 := Aside0.mk (show Kd.S k34 34 w32 w.heap.size (fun k_ => ((fun _ => True)) k_ ∧ ¬ ((fun _ => False)) k_) (.slice (some ⟨go19, 0, none⟩) x9_1.length co26) y418 from (by (with_reducible repeat (first | apply Kd.S_alloc | apply Kd.S_drewN | apply Kd.S_drew)); exact Kd.S_mono HO_9.out (fun k_ hk => ⟨trivial, fun e_ => e_⟩))); obtain ⟨oki33, ce33, hcl33, hM33, hcc33, hfr33, hoki33, hH33⟩ := Kd.S_elem HX33.out z34 (t416 : Int) (of_decide_eq_true (by first | (with_reducible assumption) | assumption)) (by have h_ : (t416 : Int) < ((x9_1.length : Int) : Int) := of_decide_eq_true (by first | (with_reducible assumption) | assumption); first | exact h_ | (have e_ := (Kd.S_reads' HO_9.out).1; omega) | simpa using h_); obtain ⟨ve33_7, ve33_8, rfl, ge33_7, ge33_8⟩ := k34_openM hM33; have HP33 := Kd.S_seg hH33 (of_decide_eq_true (by first | (with_reducible assumption) | assumption)) (by have h_ : (t416 : Int) < ((x9_1.length : Int) : Int) := of_decide_eq_true (by first | (with_reducible assumption) | assumption); first | exact h_ | (have e_ := (Kd.S_reads' HO_9.out).1; omega) | simpa using h_) (seg := [.int .i64 0]) (j := 5) (show 6 ≤ 9 from by decide) (x' := (⟨(rd_T34 y418 t416).f0, (rd_T34 y418 t416).f1, (rd_T34 y418 t416).f2, (rd_T34 y418 t416).f3, (rd_T34 y418 t416).f4, 0, (rd_T34 y418 t416).f6, (rd_T34 y418 t416).f7, (rd_T34 y418 t416).f8⟩ : S34)) (k34_mkM _ _ _ (⟨(rd_T34 y418 t416).f0, (rd_T34 y418 t416).f1, (rd_T34 y418 t416).f2, (rd_T34 y418 t416).f3, (rd_T34 y418 t416).f4, 0, (rd_T34 y418 t416).f6, (rd_T34 y418 t416).f7, (rd_T34 y418 t416).f8⟩ : S34) (Kd.R_mono ge33_7 (fun _ h_ => Or.inl h_)) (Kd.R_mono ge33_8 (fun _ h_ => Or.inl h_))) (fun _ hk => hk) (fun k_ hk_ => hk_.elim); have hx33_5 := hcc33 5 _ rfl; (try simp only [show (k34).sz = 9 from rfl, Nat.mul_one, Nat.add_zero] at hx33_5); have hf33_5 := hfr33 5; (try simp only [show (k34).sz = 9 from rfl, Nat.mul_one, Nat.add_zero] at hf33_5); clear hcl33 hcc33 hfr33 hM33 hoki33 hH33) | ((with_reducible refine gate_store (t := 3) (p := 78) rfl ?_); refine store_event (t := 3) (p := 78) (v := ?vo_w34) (w1 := (w32.setCell ⟨go19, (t416 : Int).toNat * 9 + 5, none⟩ (.int .i64 0))) ?hg ?ho ?hn ?hr ?_; (case ho => rfl); (case hg => rfl); (case hn => rfl); (case hr => first | (go_simp; done) | (go_simp; rfl)); intro w34 hw; have hg : w32.grownBy w34 (some go19) := (by rw [hw]; exact HP33.2); have hp_ : Kd.S k34 34 w34 w.heap.size (fun _ => True) (.slice (some ⟨go19, 0, none⟩) x9_1.length co26) y422 := (by rw [hw, Ny422.out]; exact HP33.1); clear HP33; have n0_ := Aside0.mk (hp_); have n1_ := Aside0.mk (blk_grown (g := gb405) (o := .cells #[.int .i64 a0_0, .int .i64 a0_1, .int .i64 a0_2] 23 (0, 0)) (by (with_reducible repeat (first | refine blk_drewN ?_ _ | refine blk_drew ?_ | refine blk_alloc ?_ _)); exact BK405.out) hg (Kd.S_ne HO_9.out BK405.out (by decide))); have n2_ := Aside0.mk ((by rw [hw]; exact below_set (HB.out) GB19.out : Below w.heap.size w w34)); clear HO_9; clear BK405; clear HB; have HO_9 := n0_; have BK405 := n1_; have HB := n2_; clear n0_ n1_ n2_; clear hg hw hp_; have p23 : 0 ≤ (t416 : Int) := of_decide_eq_true (by first | (with_reducible assumption) | assumption); have q23 : (t416 : Int) < ((x9_1.length : Int) : Int) := of_decide_eq_true (by first | (with_reducible assumption) | assumption); obtain ⟨_, ce23, hcl23, hM23, hcc23, hfr23, _, _⟩ := Kd.S_elem HO_9.out z34 (t416 : Int) p23 q23; obtain ⟨ve23_7, ve23_8, rfl, ge23_7, ge23_8⟩ := k34_openM hM23; have hx23_0 : w34.cell? ⟨go19, (t416 : Int).toNat * 9, none⟩ = some (.int .i64 ((rd_T34 y422 t416).f0)) := hcc23 0 _ rfl; have hx23_1 : w34.cell? ⟨go19, (t416 : Int).toNat * 9 + 1, none⟩ = some (.int .i64 ((rd_T34 y422 t416).f1)) := hcc23 1 _ rfl; have hx23_2 : w34.cell? ⟨go19, (t416 : Int).toNat * 9 + 2, none⟩ = some (.int .i64 ((rd_T34 y422 t416).f2)) := hcc23 2 _ rfl; have hx23_3 : w34.cell? ⟨go19, (t416 : Int).toNat * 9 + 3, none⟩ = some (.int .i64 ((rd_T34 y422 t416).f3)) := hcc23 3 _ rfl; have hx23_4 : w34.cell? ⟨go19, (t416 : Int).toNat * 9 + 4, none⟩ = some (.int .i64 ((rd_T34 y422 t416).f4)) := hcc23 4 _ rfl; have hx23_5 : w34.cell? ⟨go19, (t416 : Int).toNat * 9 + 5, none⟩ = some (.int .i64 ((rd_T34 y422 t416).f5)) := hcc23 5 _ rfl; have hx23_6 : w34.cell? ⟨go19, (t416 : Int).toNat * 9 + 6, none⟩ = some (.string ((rd_T34 y422 t416).f6)) := hcc23 6 _ rfl; have hx23_7 : w34.cell? ⟨go19, (t416 : Int).toNat * 9 + 7, none⟩ = some (ve23_7) := hcc23 7 _ rfl; have hx23_8 : w34.cell? ⟨go19, (t416 : Int).toNat * 9 + 8, none⟩ = some (ve23_8) := hcc23 8 _ rfl; have hf23_0 : w34.frozen? ⟨go19, (t416 : Int).toNat * 9, none⟩ = false := hfr23 0; have hf23_1 : w34.frozen? ⟨go19, (t416 : Int).toNat * 9 + 1, none⟩ = false := hfr23 1; have hf23_2 : w34.frozen? ⟨go19, (t416 : Int).toNat * 9 + 2, none⟩ = false := hfr23 2; have hf23_3 : w34.frozen? ⟨go19, (t416 : Int).toNat * 9 + 3, none⟩ = false := hfr23 3; have hf23_4 : w34.frozen? ⟨go19, (t416 : Int).toNat * 9 + 4, none⟩ = false := hfr23 4; have hf23_5 : w34.frozen? ⟨go19, (t416 : Int).toNat * 9 + 5, none⟩ = false := hfr23 5; have hf23_6 : w34.frozen? ⟨go19, (t416 : Int).toNat * 9 + 6, none⟩ = false := hfr23 6; have hf23_7 : w34.frozen? ⟨go19, (t416 : Int).toNat * 9 + 7, none⟩ = false := hfr23 7; have hf23_8 : w34.frozen? ⟨go19, (t416 : Int).toNat * 9 + 8, none⟩ = false := hfr23 8; clear hcl23 hcc23 hfr23 hM23; replace p23 := eq_true p23; replace q23 := eq_true q23; have HX35 := Aside0.mk (show Kd.S k34 34 w34 w.heap.size (fun k_ => ((fun _ => True)) k_ ∧ ¬ ((fun _ => False)) k_) (.slice (some ⟨go19, 0, none⟩) x9_1.length co26) y422 from (by (with_reducible repeat (first | apply Kd.S_alloc | apply Kd.S_drewN | apply Kd.S_drew)); exact Kd.S_mono HO_9.out (fun k_ hk => ⟨trivial, fun e_ => e_⟩))); obtain ⟨oki35, ce35, hcl35, hM35, hcc35, hfr35, hoki35, hH35⟩ := Kd.S_elem HX35.out z34 (t416 : Int) (of_decide_eq_true (by first | (with_reducible assumption) | assumption)) (by have h_ : (t416 : Int) < ((x9_1.length : Int) : Int) := of_decide_eq_true (by first | (with_reducible assumption) | assumption); first | exact h_ | (have e_ := (Kd.S_reads' HO_9.out).1; omega) | simpa using h_); obtain ⟨ve35_7, ve35_8, rfl, ge35_7, ge35_8⟩ := k34_openM hM35; have HP35 := Kd.S_seg hH35 (of_decide_eq_true (by first | (with_reducible assumption) | assumption)) (by have h_ : (t416 : Int) < ((x9_1.length : Int) : Int) := of_decide_eq_true (by first | (with_reducible assumption) | assumption); first | exact h_ | (have e_ := (Kd.S_reads' HO_9.out).1; omega) | simpa using h_) (seg := [.int .i64 0]) (j := 4) (show 5 ≤ 9 from by decide) (x' := (⟨(rd_T34 y422 t416).f0, (rd_T34 y422 t416).f1, (rd_T34 y422 t416).f2, (rd_T34 y422 t416).f3, 0, (rd_T34 y422 t416).f5, (rd_T34 y422 t416).f6, (rd_T34 y422 t416).f7, (rd_T34 y422 t416).f8⟩ : S34)) (k34_mkM _ _ _ (⟨(rd_T34 y422 t416).f0, (rd_T34 y422 t416).f1, (rd_T34 y422 t416).f2, (rd_T34 y422 t416).f3, 0, (rd_T34 y422 t416).f5, (rd_T34 y422 t416).f6, (rd_T34 y422 t416).f7, (rd_T34 y422 t416).f8⟩ : S34) (Kd.R_mono ge35_7 (fun _ h_ => Or.inl h_)) (Kd.R_mono ge35_8 (fun _ h_ => Or.inl h_))) (fun _ hk => hk) (fun k_ hk_ => hk_.elim); have hx35_4 := hcc35 4 _ rfl; (try simp only [show (k34).sz = 9 from rfl, Nat.mul_one, Nat.add_zero] at hx35_4); have hf35_4 := hfr35 4; (try simp only [show (k34).sz = 9 from rfl, Nat.mul_one, Nat.add_zero] at hf35_4); clear hcl35 hcc35 hfr35 hM35 hoki35 hH35) | ((with_reducible refine gate_store (t := 3) (p := 80) rfl ?_); refine store_event (t := 3) (p := 80) (v := ?vo_w36) (w1 := (w34.setCell ⟨go19, (t416 : Int).toNat * 9 + 4, none⟩ (.int .i64 0))) ?hg ?ho ?hn ?hr ?_; (case ho => rfl); (case hg => rfl); (case hn => rfl); (case hr => first | (go_simp; done) | (go_simp; rfl)); intro w36 hw; have hg : w34.grownBy w36 (some go19) := (by rw [hw]; exact HP35.2); have hp_ : Kd.S k34 34 w36 w.heap.size (fun _ => True) (.slice (some ⟨go19, 0, none⟩) x9_1.length co26) y423 := (by rw [hw, Ny423.out]; exact HP35.1); clear HP35; have n0_ := Aside0.mk (hp_); have n1_ := Aside0.mk (blk_grown (g := gb405) (o := .cells #[.int .i64 a0_0, .int .i64 a0_1, .int .i64 a0_2] 23 (0, 0)) (by (with_reducible repeat (first | refine blk_drewN ?_ _ | refine blk_drew ?_ | refine blk_alloc ?_ _)); exact BK405.out) hg (Kd.S_ne HO_9.out BK405.out (by decide))); have n2_ := Aside0.mk ((by rw [hw]; exact below_set (HB.out) GB19.out : Below w.heap.size w w36)); clear HO_9; clear BK405; clear HB; have HO_9 := n0_; have BK405 := n1_; have HB := n2_; clear n0_ n1_ n2_; clear hg hw hp_) | ((with_reducible refine gate_callee (f := 18) rfl ?_); refine goesL_ (some 85) rfl rfl Try.func18 (by kernel_rfl) rfl #[.int .i64 (wrap64 (2 + t407)), .int .i64 t408, .int .i64 5, .slice (some ⟨go19, 0, none⟩) y423.length co26] rfl (by (try simp only [List.map_toArray, List.map_cons, List.map_nil]); first | done | (rw [show y423.length = x9_1.length from (Kd.S_reads' HO_9.out).1.symm] <;> rfl) | rfl | (simp only [List.length_drop, List.length_take]; rfl)) ?_; (with_reducible refine (term_Told.calls (wrap64 (2 + t407)) t408 5 _ _ y423 t424 t425 t426 _ ?side1 ?side2 A24.out).mono ?_); (case side1 => repeat (first | exact (Kd.S_reads' HO_9.out).2.2 | (with_reducible refine Kd.C_alloc ?_ _) | (with_reducible refine Kd.C_drewN ?_ _) | (with_reducible refine Kd.C_drew ?_))); (case side2 => rw [show y423.length = x9_1.length from (Kd.S_reads' HO_9.out).1.symm]; exact (Kd.S_reads' HO_9.out).2.1); rintro e w37 ⟨rfl, hb⟩; refine ⟨_, rfl, ?_⟩; have n0_ := Aside0.mk (Kd.S_below (by (with_reducible repeat (first | apply Kd.S_alloc | apply Kd.S_drewN | apply Kd.S_drew)); exact HO_9.out) hb); have n1_ := Aside0.mk (blk_below (g := gb405) (o := .cells #[.int .i64 a0_0, .int .i64 a0_1, .int .i64 a0_2] 23 (0, 0)) (by (with_reducible repeat (first | refine blk_drewN ?_ _ | refine blk_drew ?_ | refine blk_alloc ?_ _)); exact BK405.out) hb); have n2_ := Aside0.mk (below_step (by repeat (first | (with_reducible first | exact HB.out | apply below_alloc | apply pw_below_drewN | apply below_drew1 | refine below_set ?_ GE405.out) | exact HB.out)) hb); clear HO_9; clear BK405; clear HB; have HO_9 := n0_; have BK405 := n1_; have HB := n2_; clear n0_ n1_ n2_; (try clear hb); (try clear hb2); (try clear hk); (try clear hi)))
              (try simp only [Act.put, List.setIfInBounds_toArray, List.set_cons_zero, List.set_cons_succ])
              go_cut [110] (fun v110 wc => ∃ (kq : Nat) (x110_24 : Bool), v110 = .bool x110_24 ∧ Aside0 (corncriblaw21_TermTells.j1 kq (wrap64 (1 + t409)) t408 t416 t419 t420 t424 x110_24 = some r) ∧ Aside0 (kq ≤ k1) ∧ Aside0 (wc.heap[gb405]? = some (.cells #[.int .i64 a0_0, .int .i64 a0_1, .int .i64 a0_2] 23 (0, 0))) ∧ Aside0 (Below w.heap.size w wc))
              case first =>
                have H := HC25.out
                clear HC25
                by_cases c38 : t415 = 0
                · rw [if_pos c38] at H
                  have c38b0 : (t415 == 0) = true := beq_iff_eq.mpr c38
                  have c38b1 : (t415 != 0) = false := bne_eq_false_iff_eq.mpr c38
                  clear c38
                  (first | rw [c38b0] | (simp only [i64_w, i32_w]; rw [c38b0]) | skip)
                  by_cases c39 : t421 = 0
                  · rw [if_pos c39] at H
                    have c39b0 : (t421 == 0) = true := beq_iff_eq.mpr c39
                    have c39b1 : (t421 != 0) = false := bne_eq_false_iff_eq.mpr c39
                    clear c39
                    by_cases c40 : t426 = 0
                    · rw [if_pos c40] at H
                      have c40b0 : (t426 == 0) = true := beq_iff_eq.mpr c40
                      have c40b1 : (t426 != 0) = false := bne_eq_false_iff_eq.mpr c40
                      clear c40
                      by_cases c41 : t413 = 3
                      · rw [if_pos c41] at H
                        have c41b0 : (t413 == 3) = true := beq_iff_eq.mpr c41
                        have c41b1 : (t413 != 3) = false := bne_eq_false_iff_eq.mpr c41
                        clear c41
                        by_cases c42 : t414 = 0
                        · rw [if_pos c42] at H
                          have c42b0 : (t414 == 0) = true := beq_iff_eq.mpr c42
                          have c42b1 : (t414 != 0) = false := bne_eq_false_iff_eq.mpr c42
                          clear c42
                          have H' := Aside0.mk H
                          clear H
                          go_wp2
                          go_meet
                          case rel => exact ⟨_, ((t425 != 0)), (by first | rfl | (simp; done) | (simp [*]; done)), H', ⟨by have := HK1.out; first | omega | exact Nat.le_refl _⟩, ⟨by (with_reducible repeat (first | refine blk_drewN ?_ _ | refine blk_drew ?_ | refine blk_alloc ?_ _)); exact BK405.out⟩, ⟨by repeat (first | (with_reducible first | exact HB.out | apply below_alloc | apply pw_below_drewN | apply below_drew1 | refine below_set ?_ GE405.out) | exact HB.out)⟩⟩
                        · rw [if_neg c42] at H
                          have c42b0 : (t414 == 0) = false := beq_eq_false_iff_ne.mpr c42
                          have c42b1 : (t414 != 0) = true := bne_iff_ne.mpr c42
                          have H' := Aside0.mk H
                          clear H
                          go_wp2
                          go_meet
                          case rel => exact ⟨_, (true), (by first | rfl | (simp; done) | (simp [*]; done)), H', ⟨by have := HK1.out; first | omega | exact Nat.le_refl _⟩, ⟨by (with_reducible repeat (first | refine blk_drewN ?_ _ | refine blk_drew ?_ | refine blk_alloc ?_ _)); exact BK405.out⟩, ⟨by repeat (first | (with_reducible first | exact HB.out | apply below_alloc | apply pw_below_drewN | apply below_drew1 | refine below_set ?_ GE405.out) | exact HB.out)⟩⟩
                      · rw [if_neg c41] at H
                        have c41b0 : (t413 == 3) = false := beq_eq_false_iff_ne.mpr c41
                        have c41b1 : (t413 != 3) = true := bne_iff_ne.mpr c41
                        have H' := Aside0.mk H
                        clear H
                        go_wp2
                        go_meet
                        case rel => exact ⟨_, (true), (by first | rfl | (simp; done) | (simp [*]; done)), H', ⟨by have := HK1.out; first | omega | exact Nat.le_refl _⟩, ⟨by (with_reducible repeat (first | refine blk_drewN ?_ _ | refine blk_drew ?_ | refine blk_alloc ?_ _)); exact BK405.out⟩, ⟨by repeat (first | (with_reducible first | exact HB.out | apply below_alloc | apply pw_below_drewN | apply below_drew1 | refine below_set ?_ GE405.out) | exact HB.out)⟩⟩
                    · rw [if_neg c40] at H
                      have c40b0 : (t426 == 0) = false := beq_eq_false_iff_ne.mpr c40
                      have c40b1 : (t426 != 0) = true := bne_iff_ne.mpr c40
                      have H' := Aside0.mk H
                      clear H
                      go_wp2
                      go_meet
                      case rel => exact ⟨_, (true), (by first | rfl | (simp; done) | (simp [*]; done)), H', ⟨by have := HK1.out; first | omega | exact Nat.le_refl _⟩, ⟨by (with_reducible repeat (first | refine blk_drewN ?_ _ | refine blk_drew ?_ | refine blk_alloc ?_ _)); exact BK405.out⟩, ⟨by repeat (first | (with_reducible first | exact HB.out | apply below_alloc | apply pw_below_drewN | apply below_drew1 | refine below_set ?_ GE405.out) | exact HB.out)⟩⟩
                  · rw [if_neg c39] at H
                    have c39b0 : (t421 == 0) = false := beq_eq_false_iff_ne.mpr c39
                    have c39b1 : (t421 != 0) = true := bne_iff_ne.mpr c39
                    have H' := Aside0.mk H
                    clear H
                    go_wp2
                    go_meet
                    case rel => exact ⟨_, (true), (by first | rfl | (simp; done) | (simp [*]; done)), H', ⟨by have := HK1.out; first | omega | exact Nat.le_refl _⟩, ⟨by (with_reducible repeat (first | refine blk_drewN ?_ _ | refine blk_drew ?_ | refine blk_alloc ?_ _)); exact BK405.out⟩, ⟨by repeat (first | (with_reducible first | exact HB.out | apply below_alloc | apply pw_below_drewN | apply below_drew1 | refine below_set ?_ GE405.out) | exact HB.out)⟩⟩
                · rw [if_neg c38] at H
                  have c38b0 : (t415 == 0) = false := beq_eq_false_iff_ne.mpr c38
                  have c38b1 : (t415 != 0) = true := bne_iff_ne.mpr c38
                  (first | rw [c38b0] | (simp only [i64_w, i32_w]; rw [c38b0]) | skip)
                  have H' := Aside0.mk H
                  clear H
                  go_wp2
                  go_meet
                  case rel => exact ⟨_, (true), (by first | rfl | (simp; done) | (simp [*]; done)), H', ⟨by have := HK1.out; first | omega | exact Nat.le_refl _⟩, ⟨by (with_reducible repeat (first | refine blk_drewN ?_ _ | refine blk_drew ?_ | refine blk_alloc ?_ _)); exact BK405.out⟩, ⟨by repeat (first | (with_reducible first | exact HB.out | apply below_alloc | apply pw_below_drewN | apply below_drew1 | refine below_set ?_ GE405.out) | exact HB.out)⟩⟩
              case rest =>
                clear HC25
                try clear c1
                try clear p1
                try clear q1
                try clear hx1
                try clear c2
                try clear p2
                try clear q2
                try clear hx2
                try clear c3
                try clear hx3
                try clear hf3
                try clear c4
                try clear c5
                try clear p6
                try clear c7
                try clear c8
                try clear c9
                try clear c12
                try clear c12b0
                try clear c13
                try clear c17
                try clear c17b0
                try clear c18
                try clear c18b0
                try clear c19
                try clear p19
                try clear q19
                try clear hx19
                try clear hf19
                try clear c20
                try clear p20
                try clear q20
                try clear hx20
                try clear hf20
                try clear c22
                try clear p22
                try clear q22
                try clear hx22
                try clear hf22
                try clear c23
                try clear p23
                try clear q23
                try clear hx23
                try clear hf23
                try clear c28
                try clear hx28
                try clear hf28
                try clear c30
                try clear hx30
                try clear hf30
                try clear c33
                try clear hx33
                try clear hf33
                try clear c35
                try clear hx35
                try clear hf35
                try clear c38
                try clear c38b0
                try clear c38b1
                try clear c39
                try clear c39b0
                try clear c39b1
                try clear c40
                try clear c40b0
                try clear c40b1
                try clear c41
                try clear c41b0
                try clear c41b1
                try clear c42
                try clear c42b0
                try clear c42b1
                try clear hcz11_0
                try clear hcz11_1
                try clear hcz11_2
                try clear hfz11_0
                try clear hfz11_1
                try clear hfz11_2
                try clear hx19_0
                try clear hx19_1
                try clear hx19_2
                try clear hx19_3
                try clear hx19_4
                try clear hx19_5
                try clear hx19_6
                try clear hx19_7
                try clear hx19_8
                try clear hx20_0
                try clear hx20_1
                try clear hx20_2
                try clear hx20_3
                try clear hx20_4
                try clear hx20_5
                try clear hx20_6
                try clear hx20_7
                try clear hx20_8
                try clear hx22_0
                try clear hx22_1
                try clear hx22_2
                try clear hx22_3
                try clear hx22_4
                try clear hx22_5
                try clear hx22_6
                try clear hx22_7
                try clear hx22_8
                try clear hx23_0
                try clear hx23_1
                try clear hx23_2
                try clear hx23_3
                try clear hx23_4
                try clear hx23_5
                try clear hx23_6
                try clear hx23_7
                try clear hx23_8
                try clear hx28_5
                try clear hx30_4
                try clear hx33_5
                try clear hx35_4
                try clear p19
                try clear p2
                try clear p20
                try clear p22
                try clear p23
                try clear p6
                try clear q19
                try clear q20
                try clear q22
                try clear q23
                obtain ⟨kq, x110_24, rfl, HA, HJ24, BK405, HB⟩ := hcut
                cases kq with
                | zero => exact absurd HA.out (by simp [corncriblaw21_TermTells.j1])
                | succ kj24 =>
                  have H := HA.out
                  clear HA
                  simp only [corncriblaw21_TermTells.j1] at H
                  by_cases c43 : x110_24 = true
                  · subst c43
                    have H1 : (some false) = some r := by rw [if_pos rfl] at H; exact H
                    clear H
                    have H := H1
                    clear H1
                    exact absurd (H.trans (congrArg some HRT.out)) (by simp)
                  · replace c43 := Bool.eq_false_iff.mpr c43
                    subst c43
                    have H1 : (if t416 = t408 then (if t419 = 3 then (if t424 = 3 then (some (t420 == 0)) else (some false)) else (some false)) else (if t419 = 1 then (if t420 = (wrap64 (1 + t409)) then (some (t424 == 2)) else (some false)) else (some false))) = some r := by rw [if_neg (show ¬ (false = true) by decide)] at H; exact H
                    clear H
                    have H := H1
                    clear H1
                    by_cases c44 : t416 = t408
                    · rw [if_pos c44] at H
                      have c44b0 : (t416 == t408) = true := beq_iff_eq.mpr c44
                      have c44b1 : (t416 != t408) = false := bne_eq_false_iff_eq.mpr c44
                      clear c44
                      by_cases c45 : t419 = 3
                      · rw [if_pos c45] at H
                        have c45b0 : (t419 == 3) = true := beq_iff_eq.mpr c45
                        have c45b1 : (t419 != 3) = false := bne_eq_false_iff_eq.mpr c45
                        clear c45
                        by_cases c46 : t424 = 3
                        · rw [if_pos c46] at H
                          have c46b0 : (t424 == 3) = true := beq_iff_eq.mpr c46
                          have c46b1 : (t424 != 3) = false := bne_eq_false_iff_eq.mpr c46
                          clear c46
                          obtain rfl := Option.some.inj H
                          go_wp2
                          go_ret
                          exact ⟨by first | rfl | (simp [errW_none, errW_some] <;> rfl) | (simp [*, errW_none, errW_some] <;> rfl), by repeat (first | (with_reducible first | exact HB.out | apply below_alloc | apply pw_below_drewN | apply below_drew1 | refine below_set ?_ GE405.out) | exact HB.out)⟩
                        · rw [if_neg c46] at H
                          have c46b0 : (t424 == 3) = false := beq_eq_false_iff_ne.mpr c46
                          have c46b1 : (t424 != 3) = true := bne_iff_ne.mpr c46
                          exact absurd (H.trans (congrArg some HRT.out)) (by simp)
                      · rw [if_neg c45] at H
                        have c45b0 : (t419 == 3) = false := beq_eq_false_iff_ne.mpr c45
                        have c45b1 : (t419 != 3) = true := bne_iff_ne.mpr c45
                        exact absurd (H.trans (congrArg some HRT.out)) (by simp)
                    · rw [if_neg c44] at H
                      have c44b0 : (t416 == t408) = false := beq_eq_false_iff_ne.mpr c44
                      have c44b1 : (t416 != t408) = true := bne_iff_ne.mpr c44
                      by_cases c47 : t419 = 1
                      · rw [if_pos c47] at H
                        have c47b0 : (t419 == 1) = true := beq_iff_eq.mpr c47
                        have c47b1 : (t419 != 1) = false := bne_eq_false_iff_eq.mpr c47
                        clear c47
                        by_cases c48 : t420 = (wrap64 (1 + t409))
                        · rw [if_pos c48] at H
                          have c48b0 : (t420 == (wrap64 (1 + t409))) = true := beq_iff_eq.mpr c48
                          have c48b1 : (t420 != (wrap64 (1 + t409))) = false := bne_eq_false_iff_eq.mpr c48
                          clear c48
                          obtain rfl := Option.some.inj H
                          go_wp2
                          go_ret
                          exact ⟨by first | rfl | (simp [errW_none, errW_some] <;> rfl) | (simp [*, errW_none, errW_some] <;> rfl), by repeat (first | (with_reducible first | exact HB.out | apply below_alloc | apply pw_below_drewN | apply below_drew1 | refine below_set ?_ GE405.out) | exact HB.out)⟩
                        · rw [if_neg c48] at H
                          have c48b0 : (t420 == (wrap64 (1 + t409))) = false := beq_eq_false_iff_ne.mpr c48
                          have c48b1 : (t420 != (wrap64 (1 + t409))) = true := bne_iff_ne.mpr c48
                          exact absurd (H.trans (congrArg some HRT.out)) (by simp)
                      · rw [if_neg c47] at H
                        have c47b0 : (t419 == 1) = false := beq_eq_false_iff_ne.mpr c47
                        have c47b1 : (t419 != 1) = true := bne_iff_ne.mpr c47
                        exact absurd (H.trans (congrArg some HRT.out)) (by simp)
            · rw [if_neg c18] at H
              exact absurd H (by simp)
          · rw [if_neg c17] at H
            exact absurd H (by simp)
  · replace c5 := Bool.eq_false_iff.mpr c5
    subst c5
    have H1 : (some false) = some r := by rw [if_neg (show ¬ (false = true) by decide)] at H; exact H
    clear H
    have H := H1
    clear H1
    exact absurd (H.trans (congrArg some HRT.out)) (by simp)

end Go.Proofs.Ytdecpagcaondiaa.Al
