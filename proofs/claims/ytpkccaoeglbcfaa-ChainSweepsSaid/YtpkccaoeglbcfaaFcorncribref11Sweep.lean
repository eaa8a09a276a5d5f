/- One function of the program comes to what its plain twin says. This text began as the kit's own print (print.py, made by cprint.sh) and was turned by split.py: it is no printed file. -/
import Derived.Test.YtpkccaoeglbcfaaF0
import Derived.Test.YtpkccaoeglbcfaaFaux0
import Derived.Test.YtpkccaoeglbcfaaFcorncribref11Check
import Derived.Test.YtpkccaoeglbcfaaFcorncribref11place
namespace Go.Proofs.Ytpkccaoeglbcfaa.Al
open Go.RowKit Go.Proofs.YtpkccaoeglbcfaaW.PrintWords Go.Proofs.YtpkccaoeglbcfaaW.PrintLast Go.Proofs.YtpkccaoeglbcfaaW.PrintMore
attribute [local go_sem] max2_int min2_int max_two min_two max_three min_three max_four min_four   -- for this text's walks alone
set_option linter.unusedVariables false
set_option linter.unusedSimpArgs false

attribute [local go_sem high] eqA25
/-! ### corncribref11_Sweep: function 12 -/
def corncribref11_Sweep.f (k : Nat) (l0 : List (S25)) (a1 : Int) : Option ((List (S25)) × Int) := (corncribref11_Check.f k l0).bind fun bt158 => (if bt158.2 = 0 then ((corncribref11_place.f k l0 a1).bind fun t160 => (if t160 > 0 then (if 0 ≤ (wrap64 (t160 - 1)) then (if (wrap64 (t160 - 1)) < (l0.length : Int) then (if ((rd_T25 l0 (wrap64 (t160 - 1))).f2 = true) then ((some (([] : List (S25)) : List (S25))).bind fun y162 => (if 0 ≤ t160 then (if t160 ≤ (l0.length : Int) then ((some (l0.drop (t160 : Int).toNat : List (S25))).bind fun y165 => (if y162.length + y165.length < 4398046511104 then (some ((y162 ++ y165), 0)) else (none))) else (none)) else (none))) else ((some (([] : List (S25)) : List (S25))).bind fun y172 => (if (wrap64 (t160 - 1)) ≤ (l0.length : Int) then ((some (l0.drop ((wrap64 (t160 - 1)) : Int).toNat : List (S25))).bind fun y175 => (if y172.length + y175.length < 4398046511104 then (some ((y172 ++ y175), 0)) else (none))) else (none)))) else (none)) else (none)) else ((some (([] : List (S25)) : List (S25))).bind fun y182 => (if 0 ≤ t160 then (if t160 ≤ (l0.length : Int) then ((some (l0.drop (t160 : Int).toNat : List (S25))).bind fun y185 => (if y182.length + y185.length < 4398046511104 then (some ((y182 ++ y185), 0)) else (none))) else (none)) else (none))))) else (some (([] : List (S25)), bt158.2)))
theorem corncribref11_Sweep.mono : ∀ a0 a1 k, LeO (corncribref11_Sweep.f k a0 a1) (corncribref11_Sweep.f (k + 1) a0 a1) := by
  intro a0 a1 k
  unfold corncribref11_Sweep.f
  repeat' first
      | (with_reducible exact corncribref11_Check.mono _ _)
      | (with_reducible exact corncribref11_place.mono _ _ _)
      | (with_reducible exact LeO.refl _)
      | (with_reducible exact LeO.none _)
      | (with_reducible refine LeO.ite ?_ ?_)
      | (with_reducible refine LeO.bind ?_ (fun _ => ?_))
      | exact corncribref11_Check.mono _ _
      | exact corncribref11_place.mono _ _ _
      | exact LeO.none _
      | refine LeO.ite ?_ ?_
      | refine LeO.bind ?_ (fun _ => ?_)
set_option maxHeartbeats 8000000 in
set_option maxRecDepth 100000 in
theorem corncribref11_Sweep.calls (k : Nat) (A0 : Option Addr) (c0 : Nat) (l0 : List (S25)) (a1 : Int) (r1 : List (S25)) (r2 : Int) (w : World) (hr0 : Kd.C k25 w A0 l0.length l0) (hc0 : l0.length ≤ c0) (h : corncribref11_Sweep.f k l0 a1 = some (r1, r2)) :
    Calls Try.prog 12 #[.slice A0 l0.length c0, .int .i64 a1] w fun e w' => ∃ v0_ : Value, e = .returned (.tuple #[v0_, .int .i64 r2]) ∧ Kd.R k25 25 w' w.heap.size (fun _ => True) v0_ r1 ∧ Below w.heap.size w w' := by
  have HR0 := Aside0.mk hr0
  have HC0 := Aside0.mk hc0
  clear hr0 hc0
  have HB := Aside0.mk (Below.refl w.heap.size w)
  have H : ((corncribref11_Check.f k l0).bind fun bt158 => (if bt158.2 = 0 then ((corncribref11_place.f k l0 a1).bind fun t160 => (if t160 > 0 then (if 0 ≤ (wrap64 (t160 - 1)) then (if (wrap64 (t160 - 1)) < (l0.length : Int) then (if ((rd_T25 l0 (wrap64 (t160 - 1))).f2 = true) then ((some (([] : List (S25)) : List (S25))).bind fun y162 => (if 0 ≤ t160 then (if t160 ≤ (l0.length : Int) then ((some (l0.drop (t160 : Int).toNat : List (S25))).bind fun y165 => (if y162.length + y165.length < 4398046511104 then (some ((y162 ++ y165), 0)) else (none))) else (none)) else (none))) else ((some (([] : List (S25)) : List (S25))).bind fun y172 => (if (wrap64 (t160 - 1)) ≤ (l0.length : Int) then ((some (l0.drop ((wrap64 (t160 - 1)) : Int).toNat : List (S25))).bind fun y175 => (if y172.length + y175.length < 4398046511104 then (some ((y172 ++ y175), 0)) else (none))) else (none)))) else (none)) else (none)) else ((some (([] : List (S25)) : List (S25))).bind fun y182 => (if 0 ≤ t160 then (if t160 ≤ (l0.length : Int) then ((some (l0.drop (t160 : Int).toNat : List (S25))).bind fun y185 => (if y182.length + y185.length < 4398046511104 then (some ((y182 ++ y185), 0)) else (none))) else (none)) else (none))))) else (some (([] : List (S25)), bt158.2)))) = some (r1, r2) := h
  clear h
  replace H := Option.bind_eq_some_iff.mp H
  obtain ⟨⟨t158, t159⟩, A30, H⟩ := H
  replace H : (if t159 = 0 then ((corncribref11_place.f k l0 a1).bind fun t160 => (if t160 > 0 then (if 0 ≤ (wrap64 (t160 - 1)) then (if (wrap64 (t160 - 1)) < (l0.length : Int) then (if ((rd_T25 l0 (wrap64 (t160 - 1))).f2 = true) then ((some (([] : List (S25)) : List (S25))).bind fun y162 => (if 0 ≤ t160 then (if t160 ≤ (l0.length : Int) then ((some (l0.drop (t160 : Int).toNat : List (S25))).bind fun y165 => (if y162.length + y165.length < 4398046511104 then (some ((y162 ++ y165), 0)) else (none))) else (none)) else (none))) else ((some (([] : List (S25)) : List (S25))).bind fun y172 => (if (wrap64 (t160 - 1)) ≤ (l0.length : Int) then ((some (l0.drop ((wrap64 (t160 - 1)) : Int).toNat : List (S25))).bind fun y175 => (if y172.length + y175.length < 4398046511104 then (some ((y172 ++ y175), 0)) else (none))) else (none)))) else (none)) else (none)) else ((some (([] : List (S25)) : List (S25))).bind fun y182 => (if 0 ≤ t160 then (if t160 ≤ (l0.length : Int) then ((some (l0.drop (t160 : Int).toNat : List (S25))).bind fun y185 => (if y182.length + y185.length < 4398046511104 then (some ((y182 ++ y185), 0)) else (none))) else (none)) else (none))))) else (some (([] : List (S25)), t159))) = some (r1, r2) := H
  have A3 := Aside0.mk A30
  clear A30
  by_cases c4 : t159 = 0
  · rw [if_pos c4] at H
    have c4b0 : (t159 == 0) = true := beq_iff_eq.mpr c4
    have c4b1 : (t159 != 0) = false := bne_eq_false_iff_eq.mpr c4
    clear c4
    replace H := Option.bind_eq_some_iff.mp H
    obtain ⟨t160, A50, H⟩ := H
    replace H : (if t160 > 0 then (if 0 ≤ (wrap64 (t160 - 1)) then (if (wrap64 (t160 - 1)) < (l0.length : Int) then (if ((rd_T25 l0 (wrap64 (t160 - 1))).f2 = true) then ((some (([] : List (S25)) : List (S25))).bind fun y162 => (if 0 ≤ t160 then (if t160 ≤ (l0.length : Int) then ((some (l0.drop (t160 : Int).toNat : List (S25))).bind fun y165 => (if y162.length + y165.length < 4398046511104 then (some ((y162 ++ y165), 0)) else (none))) else (none)) else (none))) else ((some (([] : List (S25)) : List (S25))).bind fun y172 => (if (wrap64 (t160 - 1)) ≤ (l0.length : Int) then ((some (l0.drop ((wrap64 (t160 - 1)) : Int).toNat : List (S25))).bind fun y175 => (if y172.length + y175.length < 4398046511104 then (some ((y172 ++ y175), 0)) else (none))) else (none)))) else (none)) else (none)) else ((some (([] : List (S25)) : List (S25))).bind fun y182 => (if 0 ≤ t160 then (if t160 ≤ (l0.length : Int) then ((some (l0.drop (t160 : Int).toNat : List (S25))).bind fun y185 => (if y182.length + y185.length < 4398046511104 then (some ((y182 ++ y185), 0)) else (none))) else (none)) else (none)))) = some (r1, r2) := H
    have A5 := Aside0.mk A50
    clear A50
    by_cases c6 : t160 > 0
    · rw [if_pos c6] at H
      have c6b0 : decide (0 < t160) = true := decide_eq_true c6
      clear c6
      obtain ⟨ji7, hji7⟩ : ∃ j_ : Int, (wrap64 (t160 - 1)) = j_ := ⟨_, rfl⟩
      replace H : (if 0 ≤ (ji7) then (if (ji7) < (l0.length : Int) then (if ((rd_T25 l0 (ji7)).f2 = true) then ((some (([] : List (S25)) : List (S25))).bind fun y162 => (if 0 ≤ t160 then (if t160 ≤ (l0.length : Int) then ((some (l0.drop (t160 : Int).toNat : List (S25))).bind fun y165 => (if y162.length + y165.length < 4398046511104 then (some ((y162 ++ y165), 0)) else (none))) else (none)) else (none))) else ((some (([] : List (S25)) : List (S25))).bind fun y172 => (if (ji7) ≤ (l0.length : Int) then ((some (l0.drop ((ji7) : Int).toNat : List (S25))).bind fun y175 => (if y172.length + y175.length < 4398046511104 then (some ((y172 ++ y175), 0)) else (none))) else (none)))) else (none)) else (none)) = some (r1, r2) := by first | (rw [hji7] at H; exact H) | (simp only [hji7] at H ⊢; exact H)
      (try rw [hji7] at A3)
      (try rw [hji7] at A5)
      have hji7w : (IntKind.i64.wrap (t160 - 1)) = ji7 := (i64_w _).trans hji7
      by_cases c8 : 0 ≤ (ji7)
      · rw [if_pos c8] at H
        have c8b0 : decide (0 ≤ (ji7)) = true := decide_eq_true c8
        clear c8
        by_cases c9 : (ji7) < (l0.length : Int)
        · rw [if_pos c9] at H
          have c9b0 : decide ((ji7) < (l0.length : Int)) = true := decide_eq_true c9
          clear c9
          obtain ⟨bq10, hbq10⟩ : ∃ b_ : Bool, b_ = ((rd_T25 l0 (ji7)).f2) := ⟨_, rfl⟩
          replace H : (if (bq10 = true) then ((some (([] : List (S25)) : List (S25))).bind fun y162 => (if 0 ≤ t160 then (if t160 ≤ (l0.length : Int) then ((some (l0.drop (t160 : Int).toNat : List (S25))).bind fun y165 => (if y162.length + y165.length < 4398046511104 then (some ((y162 ++ y165), 0)) else (none))) else (none)) else (none))) else ((some (([] : List (S25)) : List (S25))).bind fun y172 => (if (ji7) ≤ (l0.length : Int) then ((some (l0.drop ((ji7) : Int).toNat : List (S25))).bind fun y175 => (if y172.length + y175.length < 4398046511104 then (some ((y172 ++ y175), 0)) else (none))) else (none)))) = some (r1, r2) := by rw [← hbq10] at H; exact H
          have Nbq10 := Aside0.mk hbq10
          clear hbq10
          by_cases c11 : (bq10 = true)
          · subst c11
            have H1 : ((some (([] : List (S25)) : List (S25))).bind fun y162 => (if 0 ≤ t160 then (if t160 ≤ (l0.length : Int) then ((some (l0.drop (t160 : Int).toNat : List (S25))).bind fun y165 => (if y162.length + y165.length < 4398046511104 then (some ((y162 ++ y165), 0)) else (none))) else (none)) else (none))) = some (r1, r2) := by rw [if_pos rfl] at H; exact H
            clear H
            have H := H1
            clear H1
            obtain ⟨y162, hy162⟩ : ∃ y_ : List (S25), y_ = (([] : List (S25))) := ⟨_, rfl⟩
            replace H : (if 0 ≤ t160 then (if t160 ≤ (l0.length : Int) then ((some (l0.drop (t160 : Int).toNat : List (S25))).bind fun y165 => (if y162.length + y165.length < 4398046511104 then (some ((y162 ++ y165), 0)) else (none))) else (none)) else (none)) = some (r1, r2) := by first | (rw [hy162]; with_reducible exact H) | (have H2_ := (Option.bind_some _ _).symm.trans H; rw [hy162]; with_reducible exact H2_) | (have H2_ := (Option.bind_some _ _).symm.trans H; with_reducible exact H2_) | with_reducible exact H | (rw [hy162]; exact H) | exact H
            have Ny162 := Aside0.mk hy162
            clear hy162
            by_cases c12 : 0 ≤ t160
            · rw [if_pos c12] at H
              have c12b0 := eq_true c12
              have c12b1 : decide (0 ≤ t160) = true := decide_eq_true c12
              clear c12
              by_cases c13 : t160 ≤ (l0.length : Int)
              · rw [if_pos c13] at H
                have c13b0 := eq_true c13
                have c13b1 : decide (t160 ≤ (l0.length : Int)) = true := decide_eq_true c13
                clear c13
                obtain ⟨y165, hy165⟩ : ∃ y_ : List (S25), y_ = (l0.drop (t160 : Int).toNat) := ⟨_, rfl⟩
                replace H : (if y162.length + y165.length < 4398046511104 then (some ((y162 ++ y165), 0)) else (none)) = some (r1, r2) := by first | (rw [hy165]; with_reducible exact H) | (have H2_ := (Option.bind_some _ _).symm.trans H; rw [hy165]; with_reducible exact H2_) | (have H2_ := (Option.bind_some _ _).symm.trans H; with_reducible exact H2_) | with_reducible exact H | (rw [hy165]; exact H) | exact H
                have Ny165 := Aside0.mk hy165
                clear hy165
                by_cases c14 : y162.length + y165.length < 4398046511104
                · rw [if_pos c14] at H
                  have LMc14 := Aside0.mk c14
                  clear c14
                  obtain ⟨y169, hy169⟩ : ∃ y_ : List (S25), y_ = (y162 ++ y165) := ⟨_, rfl⟩
                  replace H : (some (y169, 0)) = some (r1, r2) := by first | (rw [hy169]; with_reducible exact H) | (have H2_ := (Option.bind_some _ _).symm.trans H; rw [hy169]; with_reducible exact H2_) | (have H2_ := (Option.bind_some _ _).symm.trans H; with_reducible exact H2_) | with_reducible exact H | (rw [hy169]; exact H) | exact H
                  have Ny169 := Aside0.mk hy169
                  clear hy169
                  simp only [Option.some.injEq, Prod.mk.injEq] at H
                  obtain ⟨rfl, rfl⟩ := H
                  go_enter Try.func12, Try.ntmps12
                  go_wp2_with (first | ((with_reducible refine gate_callee (f := 20) rfl ?_); refine goesL_ (some 11) rfl rfl Try.func20 (by kernel_rfl) rfl #[.slice A0 l0.length c0] rfl (by (try simp only [List.map_toArray, List.map_cons, List.map_nil]); first | done | rfl | (simp only [List.length_drop, List.length_take]; rfl)) ?_; (with_reducible refine (corncribref11_Check.calls k _ _ l0 t158 t159 _ ?side1 ?side2 A3.out).mono ?_); (case side1 => repeat (first | exact HR0.out | (with_reducible refine Kd.C_alloc ?_ _) | (with_reducible refine Kd.C_drewN ?_ _) | (with_reducible refine Kd.C_drew ?_))); (case side2 => exact HC0.out); rintro e w' ⟨rfl, ⟨nd, rfl⟩⟩; refine ⟨_, rfl, ?_⟩) | ((with_reducible refine gate_callee (f := 25) rfl ?_); refine goesL_ (some 19) rfl rfl Try.func25 (by kernel_rfl) rfl #[.slice A0 l0.length c0, .int .i64 a1] rfl (by (try simp only [List.map_toArray, List.map_cons, List.map_nil]); first | done | rfl | (simp only [List.length_drop, List.length_take]; rfl)) ?_; (with_reducible refine (corncribref11_place.calls k _ _ l0 a1 t160 _ ?side1 ?side2 A5.out).mono ?_); (case side1 => repeat (first | exact HR0.out | (with_reducible refine Kd.C_alloc ?_ _) | (with_reducible refine Kd.C_drewN ?_ _) | (with_reducible refine Kd.C_drew ?_))); (case side2 => exact HC0.out); rintro e w' ⟨rfl, ⟨nd, rfl⟩⟩; refine ⟨_, rfl, ?_⟩; have p161 : 0 ≤ ((ji7) : Int) := of_decide_eq_true (by first | (with_reducible assumption) | assumption); have q161 : (ji7) < (l0.length : Int) := of_decide_eq_true (by first | (with_reducible assumption) | assumption); obtain ⟨ad161, e161, hx161_0, hx161_1, hx161_2⟩ := at_T25 HR0.out (ji7) p161 q161; (try rw [← Nbq10.out] at hx161_2); cases e161; replace p161 := eq_true p161; replace q161 := eq_true q161) | ((with_reducible refine gate_dst (N := 33) rfl ?_); refine Kd.R_lit k25 _ 25 ?hg (N := 33) ?hd (xs := ([] : List (S25))) (inner := []) (ok := fun _ => True) (okp := fun _ => True) ?hr ?hp (fun _ hk => hk) trivial (Below.refl _ _) (Nat.le_refl _) (by simp) ?_; (case hd => rfl); (case hg => rfl); (case hr => first | (go_simp; done) | (go_simp; rfl)); (case hp => exact (Reps.none _ _)); intro v163 w15 ho16 hb hg_ hnew_; clear hg_ hnew_; (first | rw [← Ny162.out] at ho16 | (simp only [Int.reduceToNat] at ho16; rw [← Ny162.out] at ho16)); have n0_ := Aside0.mk (Kd.R_lower ho16 (below_size (by repeat (first | (with_reducible first | exact HB.out | apply below_alloc | apply pw_below_drewN | apply below_drew1) | exact HB.out)))); have n1_ := Aside0.mk (below_step (by repeat (first | (with_reducible first | exact HB.out | apply below_alloc | apply pw_below_drewN | apply below_drew1) | exact HB.out)) hb); clear HB; have HO164 := n0_; have HB := n1_; clear n0_ n1_; clear hb ho16; have q17 : (t160 : Int) ≤ ((l0.length : Int) : Int) := of_decide_eq_true (by first | (with_reducible assumption) | assumption); obtain ⟨i017, hi017, _, hsz17, _⟩ := info_parts info25; have hroom17 : l0.length ≤ c0 := HC0.out; have hC17 : Kd.C k25 _ (some ad161) l0.length l0 := HR0.out; have q017 : (0 : Int) ≤ (t160 : Int) := of_decide_eq_true (by first | (with_reducible assumption) | assumption); have hcut17 := cut_from (P := Try.prog) 22 25 .i64 Try.underlying22 hi017 3 hsz17 (some ad161) l0.length c0 t160 q017 q17; have hr17 := Kd.C_drop (m := (t160 : Int).toNat) (c := c0) hC17 (by omega) hroom17; obtain ⟨A17, hA17⟩ : ∃ A1, A1 = (if c0 = (t160 : Int).toNat then (some ad161) else ((some ad161) : Option Addr).map (·.add ((t160 : Int).toNat * 3))) := ⟨_, rfl⟩; obtain ⟨c17, hc17⟩ : ∃ c1, c1 = c0 - (t160 : Int).toNat := ⟨_, rfl⟩; have hy17 : y165.length = l0.length - (t160 : Int).toNat := (by rw [Ny165.out, List.length_drop] <;> omega); rw [show (l0).drop (t160 : Int).toNat = y165 from Ny165.out.symm] at hr17; replace hr17 : Kd.C k25 _ A17 y165.length y165 := (by rw [hA17]; exact hr17); rw [← hy17, ← hA17, ← hc17] at hcut17; have HR168 := Aside0.mk hr17; have HC168 := Aside0.mk (show y165.length ≤ c17 from by rw [hy17, hc17]; exact Nat.sub_le_sub_right hroom17 _); clear hr17 hC17 hroom17 hi017 hsz17 hc17; have KY17 := Aside0.mk hy17; have KA17 := Aside0.mk hA17; clear hy17 hA17; replace q17 := eq_true q17) | ((with_reducible refine gate_builtin (b := .append) (xs := #[.tmp 33, .tmp 36]) rfl ?_); at_builtin; refine Kd.R_append_rows k25 (w0 := w) w.heap.size rfl (.tmp 33) (.tmp 36) 22 25 (.agg #[(.int .i64 0), (.string ⟨#[]⟩), (.bool false)]) 32 rfl Try.underlying22 info25 rfl (by decide) (by omega) v163 y162 y165 _ _ _ (fun _ => True) (fun _ => False) rfl rfl ?aO ?aR (fun _ _ h => h) (fun _ h => h.elim) ?aF ?aB ?aS ?aL ?_; (case aR => repeat (first | exact (Kd.C_below HR168.out HB.out) | (with_reducible refine Kd.C_alloc ?_ _) | (with_reducible refine Kd.C_drewN ?_ _) | (with_reducible refine Kd.C_drew ?_))); (case aB => exact (by repeat (first | (with_reducible first | exact HB.out | apply below_alloc | apply pw_below_drewN | apply below_drew1) | exact HB.out))); (case aF => exact (fun _ _ => trivial)); (case aO => exact (by (with_reducible repeat (first | apply Kd.R_alloc | apply Kd.R_drewN | apply Kd.R_drew)); exact HO164.out)); (case aS => exact (below_size (by repeat (first | (with_reducible first | exact HB.out | apply below_alloc | apply pw_below_drewN | apply below_drew1) | exact HB.out)))); (case aL => have := LMc14.out; omega); intro v170 w18 ho hb hg hat; rw [← Ny169.out] at ho; have n0_ := Aside0.mk (hb); have n1_ := Aside0.mk (ho); clear HB; clear HO164; have HB := n0_; have HO171 := n1_; clear n0_ n1_; clear ho hb hg hat))
                  go_ret2
                  exact ⟨_, by first | rfl | (simp [errW_none, errW_some] <;> rfl) | (simp only [← hji7]; first | rfl | (simp [errW_none, errW_some] <;> rfl)) | (simp [*, errW_none, errW_some] <;> rfl), by (with_reducible repeat (first | apply Kd.R_alloc | apply Kd.R_drewN | apply Kd.R_drew)); exact HO171.out, by repeat (first | (with_reducible first | exact HB.out | apply below_alloc | apply pw_below_drewN | apply below_drew1) | exact HB.out)⟩
                · rw [if_neg c14] at H
                  exact absurd H (by simp)
              · rw [if_neg c13] at H
                exact absurd H (by simp)
            · rw [if_neg c12] at H
              exact absurd H (by simp)
          · replace c11 := Bool.eq_false_iff.mpr c11
            subst c11
            have H1 : ((some (([] : List (S25)) : List (S25))).bind fun y172 => (if (ji7) ≤ (l0.length : Int) then ((some (l0.drop ((ji7) : Int).toNat : List (S25))).bind fun y175 => (if y172.length + y175.length < 4398046511104 then (some ((y172 ++ y175), 0)) else (none))) else (none))) = some (r1, r2) := by rw [if_neg (show ¬ (false = true) by decide)] at H; exact H
            clear H
            have H := H1
            clear H1
            obtain ⟨y172, hy172⟩ : ∃ y_ : List (S25), y_ = (([] : List (S25))) := ⟨_, rfl⟩
            replace H : (if (ji7) ≤ (l0.length : Int) then ((some (l0.drop ((ji7) : Int).toNat : List (S25))).bind fun y175 => (if y172.length + y175.length < 4398046511104 then (some ((y172 ++ y175), 0)) else (none))) else (none)) = some (r1, r2) := by first | (rw [hy172]; with_reducible exact H) | (have H2_ := (Option.bind_some _ _).symm.trans H; rw [hy172]; with_reducible exact H2_) | (have H2_ := (Option.bind_some _ _).symm.trans H; with_reducible exact H2_) | with_reducible exact H | (rw [hy172]; exact H) | exact H
            have Ny172 := Aside0.mk hy172
            clear hy172
            have c19b0 := eq_true (of_decide_eq_true (by first | (with_reducible assumption) | assumption) : 0 ≤ (ji7))
            by_cases c20 : (ji7) ≤ (l0.length : Int)
            · rw [if_pos c20] at H
              have c20b0 := eq_true c20
              have c20b1 : decide ((ji7) ≤ (l0.length : Int)) = true := decide_eq_true c20
              clear c20
              obtain ⟨y175, hy175⟩ : ∃ y_ : List (S25), y_ = (l0.drop ((ji7) : Int).toNat) := ⟨_, rfl⟩
              replace H : (if y172.length + y175.length < 4398046511104 then (some ((y172 ++ y175), 0)) else (none)) = some (r1, r2) := by first | (rw [hy175]; with_reducible exact H) | (have H2_ := (Option.bind_some _ _).symm.trans H; rw [hy175]; with_reducible exact H2_) | (have H2_ := (Option.bind_some _ _).symm.trans H; with_reducible exact H2_) | with_reducible exact H | (rw [hy175]; exact H) | exact H
              have Ny175 := Aside0.mk hy175
              clear hy175
              by_cases c21 : y172.length + y175.length < 4398046511104
              · rw [if_pos c21] at H
                have LMc21 := Aside0.mk c21
                clear c21
                obtain ⟨y179, hy179⟩ : ∃ y_ : List (S25), y_ = (y172 ++ y175) := ⟨_, rfl⟩
                replace H : (some (y179, 0)) = some (r1, r2) := by first | (rw [hy179]; with_reducible exact H) | (have H2_ := (Option.bind_some _ _).symm.trans H; rw [hy179]; with_reducible exact H2_) | (have H2_ := (Option.bind_some _ _).symm.trans H; with_reducible exact H2_) | with_reducible exact H | (rw [hy179]; exact H) | exact H
                have Ny179 := Aside0.mk hy179
                clear hy179
                simp only [Option.some.injEq, Prod.mk.injEq] at H
                obtain ⟨rfl, rfl⟩ := H
                go_enter Try.func12, Try.ntmps12
                go_wp2_with (first | ((with_reducible refine gate_callee (f := 20) rfl ?_); refine goesL_ (some 11) rfl rfl Try.func20 (by kernel_rfl) rfl #[.slice A0 l0.length c0] rfl (by (try simp only [List.map_toArray, List.map_cons, List.map_nil]); first | done | rfl | (simp only [List.length_drop, List.length_take]; rfl)) ?_; (with_reducible refine (corncribref11_Check.calls k _ _ l0 t158 t159 _ ?side1 ?side2 A3.out).mono ?_); (case side1 => repeat (first | exact HR0.out | (with_reducible refine Kd.C_alloc ?_ _) | (with_reducible refine Kd.C_drewN ?_ _) | (with_reducible refine Kd.C_drew ?_))); (case side2 => exact HC0.out); rintro e w' ⟨rfl, ⟨nd, rfl⟩⟩; refine ⟨_, rfl, ?_⟩) | ((with_reducible refine gate_callee (f := 25) rfl ?_); refine goesL_ (some 19) rfl rfl Try.func25 (by kernel_rfl) rfl #[.slice A0 l0.length c0, .int .i64 a1] rfl (by (try simp only [List.map_toArray, List.map_cons, List.map_nil]); first | done | rfl | (simp only [List.length_drop, List.length_take]; rfl)) ?_; (with_reducible refine (corncribref11_place.calls k _ _ l0 a1 t160 _ ?side1 ?side2 A5.out).mono ?_); (case side1 => repeat (first | exact HR0.out | (with_reducible refine Kd.C_alloc ?_ _) | (with_reducible refine Kd.C_drewN ?_ _) | (with_reducible refine Kd.C_drew ?_))); (case side2 => exact HC0.out); rintro e w' ⟨rfl, ⟨nd, rfl⟩⟩; refine ⟨_, rfl, ?_⟩; have p161 : 0 ≤ ((ji7) : Int) := of_decide_eq_true (by first | (with_reducible assumption) | assumption); have q161 : (ji7) < (l0.length : Int) := of_decide_eq_true (by first | (with_reducible assumption) | assumption); obtain ⟨ad161, e161, hx161_0, hx161_1, hx161_2⟩ := at_T25 HR0.out (ji7) p161 q161; (try rw [← Nbq10.out] at hx161_2); cases e161; replace p161 := eq_true p161; replace q161 := eq_true q161) | ((with_reducible refine gate_dst (N := 33) rfl ?_); refine Kd.R_lit k25 _ 25 ?hg (N := 33) ?hd (xs := ([] : List (S25))) (inner := []) (ok := fun _ => True) (okp := fun _ => True) ?hr ?hp (fun _ hk => hk) trivial (Below.refl _ _) (Nat.le_refl _) (by simp) ?_; (case hd => rfl); (case hg => rfl); (case hr => first | (go_simp; done) | (go_simp; rfl)); (case hp => exact (Reps.none _ _)); intro v173 w22 ho23 hb hg_ hnew_; clear hg_ hnew_; (first | rw [← Ny172.out] at ho23 | (simp only [Int.reduceToNat] at ho23; rw [← Ny172.out] at ho23)); have n0_ := Aside0.mk (Kd.R_lower ho23 (below_size (by repeat (first | (with_reducible first | exact HB.out | apply below_alloc | apply pw_below_drewN | apply below_drew1) | exact HB.out)))); have n1_ := Aside0.mk (below_step (by repeat (first | (with_reducible first | exact HB.out | apply below_alloc | apply pw_below_drewN | apply below_drew1) | exact HB.out)) hb); clear HB; have HO174 := n0_; have HB := n1_; clear n0_ n1_; clear hb ho23; have q24 : ((ji7) : Int) ≤ ((l0.length : Int) : Int) := of_decide_eq_true (by first | (with_reducible assumption) | assumption); obtain ⟨i024, hi024, _, hsz24, _⟩ := info_parts info25; have hroom24 : l0.length ≤ c0 := HC0.out; have hC24 : Kd.C k25 _ (some ad161) l0.length l0 := HR0.out; have q024 : (0 : Int) ≤ ((ji7) : Int) := of_decide_eq_true (by first | (with_reducible assumption) | assumption); have hcut24 := cut_from (P := Try.prog) 22 25 .i64 Try.underlying22 hi024 3 hsz24 (some ad161) l0.length c0 (ji7) q024 q24; have hr24 := Kd.C_drop (m := ((ji7) : Int).toNat) (c := c0) hC24 (by omega) hroom24; obtain ⟨A24, hA24⟩ : ∃ A1, A1 = (if c0 = ((ji7) : Int).toNat then (some ad161) else ((some ad161) : Option Addr).map (·.add (((ji7) : Int).toNat * 3))) := ⟨_, rfl⟩; obtain ⟨c24, hc24⟩ : ∃ c1, c1 = c0 - ((ji7) : Int).toNat := ⟨_, rfl⟩; have hy24 : y175.length = l0.length - ((ji7) : Int).toNat := (by rw [Ny175.out, List.length_drop] <;> omega); rw [show (l0).drop ((ji7) : Int).toNat = y175 from Ny175.out.symm] at hr24; replace hr24 : Kd.C k25 _ A24 y175.length y175 := (by rw [hA24]; exact hr24); rw [← hy24, ← hA24, ← hc24] at hcut24; have HR178 := Aside0.mk hr24; have HC178 := Aside0.mk (show y175.length ≤ c24 from by rw [hy24, hc24]; exact Nat.sub_le_sub_right hroom24 _); clear hr24 hC24 hroom24 hi024 hsz24 hc24; have KY24 := Aside0.mk hy24; have KA24 := Aside0.mk hA24; clear hy24 hA24; replace q24 := eq_true q24) | ((with_reducible refine gate_builtin (b := .append) (xs := #[.tmp 33, .tmp 36]) rfl ?_); at_builtin; refine Kd.R_append_rows k25 (w0 := w) w.heap.size rfl (.tmp 33) (.tmp 36) 22 25 (.agg #[(.int .i64 0), (.string ⟨#[]⟩), (.bool false)]) 32 rfl Try.underlying22 info25 rfl (by decide) (by omega) v173 y172 y175 _ _ _ (fun _ => True) (fun _ => False) rfl rfl ?aO ?aR (fun _ _ h => h) (fun _ h => h.elim) ?aF ?aB ?aS ?aL ?_; (case aR => repeat (first | exact (Kd.C_below HR178.out HB.out) | (with_reducible refine Kd.C_alloc ?_ _) | (with_reducible refine Kd.C_drewN ?_ _) | (with_reducible refine Kd.C_drew ?_))); (case aB => exact (by repeat (first | (with_reducible first | exact HB.out | apply below_alloc | apply pw_below_drewN | apply below_drew1) | exact HB.out))); (case aF => exact (fun _ _ => trivial)); (case aO => exact (by (with_reducible repeat (first | apply Kd.R_alloc | apply Kd.R_drewN | apply Kd.R_drew)); exact HO174.out)); (case aS => exact (below_size (by repeat (first | (with_reducible first | exact HB.out | apply below_alloc | apply pw_below_drewN | apply below_drew1) | exact HB.out)))); (case aL => have := LMc21.out; omega); intro v180 w25 ho hb hg hat; rw [← Ny179.out] at ho; have n0_ := Aside0.mk (hb); have n1_ := Aside0.mk (ho); clear HB; clear HO174; have HB := n0_; have HO181 := n1_; clear n0_ n1_; clear ho hb hg hat))
                go_ret2
                exact ⟨_, by first | rfl | (simp [errW_none, errW_some] <;> rfl) | (simp only [← hji7]; first | rfl | (simp [errW_none, errW_some] <;> rfl)) | (simp [*, errW_none, errW_some] <;> rfl), by (with_reducible repeat (first | apply Kd.R_alloc | apply Kd.R_drewN | apply Kd.R_drew)); exact HO181.out, by repeat (first | (with_reducible first | exact HB.out | apply below_alloc | apply pw_below_drewN | apply below_drew1) | exact HB.out)⟩
              · rw [if_neg c21] at H
                exact absurd H (by simp)
            · rw [if_neg c20] at H
              exact absurd H (by simp)
        · rw [if_neg c9] at H
          exact absurd H (by simp)
      · rw [if_neg c8] at H
        exact absurd H (by simp)
    · rw [if_neg c6] at H
      have c6b0 : decide (0 < t160) = false := decide_eq_false c6
      clear c6
      obtain ⟨y182, hy182⟩ : ∃ y_ : List (S25), y_ = (([] : List (S25))) := ⟨_, rfl⟩
      replace H : (if 0 ≤ t160 then (if t160 ≤ (l0.length : Int) then ((some (l0.drop (t160 : Int).toNat : List (S25))).bind fun y185 => (if y182.length + y185.length < 4398046511104 then (some ((y182 ++ y185), 0)) else (none))) else (none)) else (none)) = some (r1, r2) := by first | (rw [hy182]; with_reducible exact H) | (have H2_ := (Option.bind_some _ _).symm.trans H; rw [hy182]; with_reducible exact H2_) | (have H2_ := (Option.bind_some _ _).symm.trans H; with_reducible exact H2_) | with_reducible exact H | (rw [hy182]; exact H) | exact H
      have Ny182 := Aside0.mk hy182
      clear hy182
      by_cases c26 : 0 ≤ t160
      · rw [if_pos c26] at H
        have c26b0 := eq_true c26
        have c26b1 : decide (0 ≤ t160) = true := decide_eq_true c26
        clear c26
        by_cases c27 : t160 ≤ (l0.length : Int)
        · rw [if_pos c27] at H
          have c27b0 := eq_true c27
          have c27b1 : decide (t160 ≤ (l0.length : Int)) = true := decide_eq_true c27
          clear c27
          obtain ⟨y185, hy185⟩ : ∃ y_ : List (S25), y_ = (l0.drop (t160 : Int).toNat) := ⟨_, rfl⟩
          replace H : (if y182.length + y185.length < 4398046511104 then (some ((y182 ++ y185), 0)) else (none)) = some (r1, r2) := by first | (rw [hy185]; with_reducible exact H) | (have H2_ := (Option.bind_some _ _).symm.trans H; rw [hy185]; with_reducible exact H2_) | (have H2_ := (Option.bind_some _ _).symm.trans H; with_reducible exact H2_) | with_reducible exact H | (rw [hy185]; exact H) | exact H
          have Ny185 := Aside0.mk hy185
          clear hy185
          by_cases c28 : y182.length + y185.length < 4398046511104
          · rw [if_pos c28] at H
            have LMc28 := Aside0.mk c28
            clear c28
            obtain ⟨y189, hy189⟩ : ∃ y_ : List (S25), y_ = (y182 ++ y185) := ⟨_, rfl⟩
            replace H : (some (y189, 0)) = some (r1, r2) := by first | (rw [hy189]; with_reducible exact H) | (have H2_ := (Option.bind_some _ _).symm.trans H; rw [hy189]; with_reducible exact H2_) | (have H2_ := (Option.bind_some _ _).symm.trans H; with_reducible exact H2_) | with_reducible exact H | (rw [hy189]; exact H) | exact H
            have Ny189 := Aside0.mk hy189
            clear hy189
            simp only [Option.some.injEq, Prod.mk.injEq] at H
            obtain ⟨rfl, rfl⟩ := H
            go_enter Try.func12, Try.ntmps12
            go_wp2_with (first | ((with_reducible refine gate_callee (f := 20) rfl ?_); refine goesL_ (some 11) rfl rfl Try.func20 (by kernel_rfl) rfl #[.slice A0 l0.length c0] rfl (by (try simp only [List.map_toArray, List.map_cons, List.map_nil]); first | done | rfl | (simp only [List.length_drop, List.length_take]; rfl)) ?_; (with_reducible refine (corncribref11_Check.calls k _ _ l0 t158 t159 _ ?side1 ?side2 A3.out).mono ?_); (case side1 => repeat (first | exact HR0.out | (with_reducible refine Kd.C_alloc ?_ _) | (with_reducible refine Kd.C_drewN ?_ _) | (with_reducible refine Kd.C_drew ?_))); (case side2 => exact HC0.out); rintro e w' ⟨rfl, ⟨nd, rfl⟩⟩; refine ⟨_, rfl, ?_⟩) | ((with_reducible refine gate_callee (f := 25) rfl ?_); refine goesL_ (some 19) rfl rfl Try.func25 (by kernel_rfl) rfl #[.slice A0 l0.length c0, .int .i64 a1] rfl (by (try simp only [List.map_toArray, List.map_cons, List.map_nil]); first | done | rfl | (simp only [List.length_drop, List.length_take]; rfl)) ?_; (with_reducible refine (corncribref11_place.calls k _ _ l0 a1 t160 _ ?side1 ?side2 A5.out).mono ?_); (case side1 => repeat (first | exact HR0.out | (with_reducible refine Kd.C_alloc ?_ _) | (with_reducible refine Kd.C_drewN ?_ _) | (with_reducible refine Kd.C_drew ?_))); (case side2 => exact HC0.out); rintro e w' ⟨rfl, ⟨nd, rfl⟩⟩; refine ⟨_, rfl, ?_⟩) | ((with_reducible refine gate_dst (N := 33) rfl ?_); refine Kd.R_lit k25 _ 25 ?hg (N := 33) ?hd (xs := ([] : List (S25))) (inner := []) (ok := fun _ => True) (okp := fun _ => True) ?hr ?hp (fun _ hk => hk) trivial (Below.refl _ _) (Nat.le_refl _) (by simp) ?_; (case hd => rfl); (case hg => rfl); (case hr => first | (go_simp; done) | (go_simp; rfl)); (case hp => exact (Reps.none _ _)); intro v183 w29 ho30 hb hg_ hnew_; clear hg_ hnew_; (first | rw [← Ny182.out] at ho30 | (simp only [Int.reduceToNat] at ho30; rw [← Ny182.out] at ho30)); have n0_ := Aside0.mk (Kd.R_lower ho30 (below_size (by repeat (first | (with_reducible first | exact HB.out | apply below_alloc | apply pw_below_drewN | apply below_drew1) | exact HB.out)))); have n1_ := Aside0.mk (below_step (by repeat (first | (with_reducible first | exact HB.out | apply below_alloc | apply pw_below_drewN | apply below_drew1) | exact HB.out)) hb); clear HB; have HO184 := n0_; have HB := n1_; clear n0_ n1_; clear hb ho30; have q31 : (t160 : Int) ≤ ((l0.length : Int) : Int) := of_decide_eq_true (by first | (with_reducible assumption) | assumption); obtain ⟨i031, hi031, _, hsz31, _⟩ := info_parts info25; have hroom31 : l0.length ≤ c0 := HC0.out; have hC31 : Kd.C k25 _ A0 l0.length l0 := HR0.out; have q031 : (0 : Int) ≤ (t160 : Int) := of_decide_eq_true (by first | (with_reducible assumption) | assumption); have hcut31 := cut_from (P := Try.prog) 22 25 .i64 Try.underlying22 hi031 3 hsz31 A0 l0.length c0 t160 q031 q31; have hr31 := Kd.C_drop (m := (t160 : Int).toNat) (c := c0) hC31 (by omega) hroom31; obtain ⟨A31, hA31⟩ : ∃ A1, A1 = (if c0 = (t160 : Int).toNat then A0 else (A0 : Option Addr).map (·.add ((t160 : Int).toNat * 3))) := ⟨_, rfl⟩; obtain ⟨c31, hc31⟩ : ∃ c1, c1 = c0 - (t160 : Int).toNat := ⟨_, rfl⟩; have hy31 : y185.length = l0.length - (t160 : Int).toNat := (by rw [Ny185.out, List.length_drop] <;> omega); rw [show (l0).drop (t160 : Int).toNat = y185 from Ny185.out.symm] at hr31; replace hr31 : Kd.C k25 _ A31 y185.length y185 := (by rw [hA31]; exact hr31); rw [← hy31, ← hA31, ← hc31] at hcut31; have HR188 := Aside0.mk hr31; have HC188 := Aside0.mk (show y185.length ≤ c31 from by rw [hy31, hc31]; exact Nat.sub_le_sub_right hroom31 _); clear hr31 hC31 hroom31 hi031 hsz31 hc31; have KY31 := Aside0.mk hy31; have KA31 := Aside0.mk hA31; clear hy31 hA31; replace q31 := eq_true q31) | ((with_reducible refine gate_builtin (b := .append) (xs := #[.tmp 33, .tmp 36]) rfl ?_); at_builtin; refine Kd.R_append_rows k25 (w0 := w) w.heap.size rfl (.tmp 33) (.tmp 36) 22 25 (.agg #[(.int .i64 0), (.string ⟨#[]⟩), (.bool false)]) 32 rfl Try.underlying22 info25 rfl (by decide) (by omega) v183 y182 y185 _ _ _ (fun _ => True) (fun _ => False) rfl rfl ?aO ?aR (fun _ _ h => h) (fun _ h => h.elim) ?aF ?aB ?aS ?aL ?_; (case aR => repeat (first | exact (Kd.C_below HR188.out HB.out) | (with_reducible refine Kd.C_alloc ?_ _) | (with_reducible refine Kd.C_drewN ?_ _) | (with_reducible refine Kd.C_drew ?_))); (case aB => exact (by repeat (first | (with_reducible first | exact HB.out | apply below_alloc | apply pw_below_drewN | apply below_drew1) | exact HB.out))); (case aF => exact (fun _ _ => trivial)); (case aO => exact (by (with_reducible repeat (first | apply Kd.R_alloc | apply Kd.R_drewN | apply Kd.R_drew)); exact HO184.out)); (case aS => exact (below_size (by repeat (first | (with_reducible first | exact HB.out | apply below_alloc | apply pw_below_drewN | apply below_drew1) | exact HB.out)))); (case aL => have := LMc28.out; omega); intro v190 w32 ho hb hg hat; rw [← Ny189.out] at ho; have n0_ := Aside0.mk (hb); have n1_ := Aside0.mk (ho); clear HB; clear HO184; have HB := n0_; have HO191 := n1_; clear n0_ n1_; clear ho hb hg hat))
            go_ret2
            exact ⟨_, by first | rfl | (simp [errW_none, errW_some] <;> rfl) | (simp [*, errW_none, errW_some] <;> rfl), by (with_reducible repeat (first | apply Kd.R_alloc | apply Kd.R_drewN | apply Kd.R_drew)); exact HO191.out, by repeat (first | (with_reducible first | exact HB.out | apply below_alloc | apply pw_below_drewN | apply below_drew1) | exact HB.out)⟩
          · rw [if_neg c28] at H
            exact absurd H (by simp)
        · rw [if_neg c27] at H
          exact absurd H (by simp)
      · rw [if_neg c26] at H
        exact absurd H (by simp)
  · rw [if_neg c4] at H
    have c4b0 : (t159 == 0) = false := beq_eq_false_iff_ne.mpr c4
    have c4b1 : (t159 != 0) = true := bne_iff_ne.mpr c4
    simp only [Option.some.injEq, Prod.mk.injEq] at H
    obtain ⟨rfl, rfl⟩ := H
    go_enter Try.func12, Try.ntmps12
    go_wp2_with (first | ((with_reducible refine gate_callee (f := 20) rfl ?_); refine goesL_ (some 11) rfl rfl Try.func20 (by kernel_rfl) rfl #[.slice A0 l0.length c0] rfl (by (try simp only [List.map_toArray, List.map_cons, List.map_nil]); first | done | rfl | (simp only [List.length_drop, List.length_take]; rfl)) ?_; (with_reducible refine (corncribref11_Check.calls k _ _ l0 t158 t159 _ ?side1 ?side2 A3.out).mono ?_); (case side1 => repeat (first | exact HR0.out | (with_reducible refine Kd.C_alloc ?_ _) | (with_reducible refine Kd.C_drewN ?_ _) | (with_reducible refine Kd.C_drew ?_))); (case side2 => exact HC0.out); rintro e w' ⟨rfl, ⟨nd, rfl⟩⟩; refine ⟨_, rfl, ?_⟩))
    go_ret2
    exact ⟨_, by first | rfl | (simp [errW_none, errW_some] <;> rfl) | (simp [*, errW_none, errW_some] <;> rfl), by first | exact Kd.R_nil _ _ _ _ _ | exact Kd.N_nil _ _ _ _ _ | exact Kd.V_nil _ _ _ _ _ | exact Kd.Q_nil _ _ _ _ _ | exact Kd.S_nil _ _ _ _ _, by repeat (first | (with_reducible first | exact HB.out | apply below_alloc | apply pw_below_drewN | apply below_drew1) | exact HB.out)⟩

end Go.Proofs.Ytpkccaoeglbcfaa.Al
