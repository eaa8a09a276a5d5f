/- One function of the program comes to what its plain twin says. This text began as the kit's own print (print.py, made by cprint.sh) and was turned by split.py: it is no printed file. -/
import Derived.Test.YtpkccaoeglbcfaaF0
import Derived.Test.YtpkccaoeglbcfaaLent
import Derived.Test.YtpkccaoeglbcfaaFaux0
import Derived.Test.YtpkccaoeglbcfaaFcorncribbookLendVersions
import Derived.Test.YtpkccaoeglbcfaaFchainCheck
import Derived.Test.YtpkccaoeglbcfaaFcorncribref11Check
import Derived.Test.YtpkccaoeglbcfaaFcorncribbookSameVersions
import Derived.Test.YtpkccaoeglbcfaaFcorncribbookSpoilVersions
import Derived.Test.YtpkccaoeglbcfaaFcorncribbookKeptVersions
import Derived.Test.YtpkccaoeglbcfaaFcorncriblaw11works
import Derived.Test.YtpkccaoeglbcfaaFchainAdd
import Derived.Test.YtpkccaoeglbcfaaFcorncribref11Add
namespace Go.Proofs.Ytpkccaoeglbcfaa.Al
open Go.RowKit Go.Proofs.YtpkccaoeglbcfaaW.PrintWords Go.Proofs.YtpkccaoeglbcfaaW.PrintLast Go.Proofs.YtpkccaoeglbcfaaW.PrintMore
attribute [local go_sem] max2_int min2_int max_two min_two max_three min_three max_four min_four   -- for this text's walks alone
set_option linter.unusedVariables false
set_option linter.unusedSimpArgs false

/-! ### corncriblaw11_ChainAdds: function 4 -/
def corncriblaw11_ChainAdds.f (k : Nat) (l0 : List (S25)) (a1_0 : Int) (a1_1 : ByteArray) (a1_2 : Bool) : Option (Bool) := (corncribbook_LendVersions.f l0).bind fun t312 => ((chain_Check.f k t312).bind fun bt315 => ((corncribref11_Check.f k l0).bind fun bt317 => ((chain_Add.f k t312 a1_0 a1_1 a1_2).bind fun bt319 => ((corncribref11_Add.f k l0 a1_0 a1_1 a1_2).bind fun bt323 => (if bt315.1 = bt317.1 then (if bt315.2 = bt317.2 then ((corncribbook_SameVersions.f k bt319.1 bt323.1).bind fun t327 => (if t327 = true then ((corncribbook_SpoilVersions.f k bt319.1).bind fun t328 => (if bt319.2 = bt323.2 then ((corncribbook_KeptVersions.f k t312 l0).bind fun t329 => (if t329 = true then ((corncriblaw11_works.f k).bind fun t330 => (some t330)) else (some false))) else (some false))) else ((corncribbook_SpoilVersions.f k bt319.1).bind fun t331 => (some false)))) else ((corncribbook_SpoilVersions.f k bt319.1).bind fun t332 => (some false))) else ((corncribbook_SpoilVersions.f k bt319.1).bind fun t333 => (some false)))))))
theorem corncriblaw11_ChainAdds.mono : ∀ a0 a1 a2 a3 k, LeO (corncriblaw11_ChainAdds.f k a0 a1 a2 a3) (corncriblaw11_ChainAdds.f (k + 1) a0 a1 a2 a3) := by
  intro a0 a1 a2 a3 k
  unfold corncriblaw11_ChainAdds.f
  repeat' first
      | (with_reducible exact chain_Add.mono _ _ _ _ _)
      | (with_reducible exact chain_Check.mono _ _)
      | (with_reducible exact corncribbook_KeptVersions.mono _ _ _)
      | (with_reducible exact corncribbook_SameVersions.mono _ _ _)
      | (with_reducible exact corncribbook_SpoilVersions.mono _ _)
      | (with_reducible exact corncriblaw11_works.mono _)
      | (with_reducible exact corncribref11_Add.mono _ _ _ _ _)
      | (with_reducible exact corncribref11_Check.mono _ _)
      | (with_reducible exact LeO.refl _)
      | (with_reducible exact LeO.none _)
      | (with_reducible refine LeO.ite ?_ ?_)
      | (with_reducible refine LeO.bind ?_ (fun _ => ?_))
      | exact chain_Add.mono _ _ _ _ _
      | exact chain_Check.mono _ _
      | exact corncribbook_KeptVersions.mono _ _ _
      | exact corncribbook_SameVersions.mono _ _ _
      | exact corncribbook_SpoilVersions.mono _ _
      | exact corncriblaw11_works.mono _
      | exact corncribref11_Add.mono _ _ _ _ _
      | exact corncribref11_Check.mono _ _
      | exact LeO.none _
      | refine LeO.ite ?_ ?_
      | refine LeO.bind ?_ (fun _ => ?_)
set_option maxHeartbeats 8000000 in
set_option maxRecDepth 100000 in
theorem corncriblaw11_ChainAdds.calls (k : Nat) (A0 : Option Addr) (c0 : Nat) (l0 : List (S25)) (a1_0 : Int) (a1_1 : ByteArray) (a1_2 : Bool) (r : Bool) (w : World) (hr0 : Kd.C k25 w A0 l0.length l0) (hc0 : l0.length ≤ c0) (h : corncriblaw11_ChainAdds.f k l0 a1_0 a1_1 a1_2 = some r) (hr_ : r = true) :
    Calls Try.prog 4 #[.slice A0 l0.length c0, .agg #[.int .i64 a1_0, .string a1_1, .bool a1_2]] w fun e w' => e = .returned (.bool r) ∧ Below w.heap.size w w' := by
  have HRT := Aside0.mk hr_
  clear hr_
  have hu25 := Try.underlying25
  have HR0 := Aside0.mk hr0
  have HC0 := Aside0.mk hc0
  clear hr0 hc0
  have HB := Aside0.mk (Below.refl w.heap.size w)
  have H : ((corncribbook_LendVersions.f l0).bind fun t312 => ((chain_Check.f k t312).bind fun bt315 => ((corncribref11_Check.f k l0).bind fun bt317 => ((chain_Add.f k t312 a1_0 a1_1 a1_2).bind fun bt319 => ((corncribref11_Add.f k l0 a1_0 a1_1 a1_2).bind fun bt323 => (if bt315.1 = bt317.1 then (if bt315.2 = bt317.2 then ((corncribbook_SameVersions.f k bt319.1 bt323.1).bind fun t327 => (if t327 = true then ((corncribbook_SpoilVersions.f k bt319.1).bind fun t328 => (if bt319.2 = bt323.2 then ((corncribbook_KeptVersions.f k t312 l0).bind fun t329 => (if t329 = true then ((corncriblaw11_works.f k).bind fun t330 => (some t330)) else (some false))) else (some false))) else ((corncribbook_SpoilVersions.f k bt319.1).bind fun t331 => (some false)))) else ((corncribbook_SpoilVersions.f k bt319.1).bind fun t332 => (some false))) else ((corncribbook_SpoilVersions.f k bt319.1).bind fun t333 => (some false)))))))) = some r := h
  clear h
  replace H := Option.bind_eq_some_iff.mp H
  obtain ⟨t312, A30, H⟩ := H
  replace H : ((chain_Check.f k t312).bind fun bt315 => ((corncribref11_Check.f k l0).bind fun bt317 => ((chain_Add.f k t312 a1_0 a1_1 a1_2).bind fun bt319 => ((corncribref11_Add.f k l0 a1_0 a1_1 a1_2).bind fun bt323 => (if bt315.1 = bt317.1 then (if bt315.2 = bt317.2 then ((corncribbook_SameVersions.f k bt319.1 bt323.1).bind fun t327 => (if t327 = true then ((corncribbook_SpoilVersions.f k bt319.1).bind fun t328 => (if bt319.2 = bt323.2 then ((corncribbook_KeptVersions.f k t312 l0).bind fun t329 => (if t329 = true then ((corncriblaw11_works.f k).bind fun t330 => (some t330)) else (some false))) else (some false))) else ((corncribbook_SpoilVersions.f k bt319.1).bind fun t331 => (some false)))) else ((corncribbook_SpoilVersions.f k bt319.1).bind fun t332 => (some false))) else ((corncribbook_SpoilVersions.f k bt319.1).bind fun t333 => (some false))))))) = some r := H
  have A3 := Aside0.mk A30
  clear A30
  replace H := Option.bind_eq_some_iff.mp H
  obtain ⟨⟨t315, t316⟩, A40, H⟩ := H
  replace H : ((corncribref11_Check.f k l0).bind fun bt317 => ((chain_Add.f k t312 a1_0 a1_1 a1_2).bind fun bt319 => ((corncribref11_Add.f k l0 a1_0 a1_1 a1_2).bind fun bt323 => (if t315 = bt317.1 then (if t316 = bt317.2 then ((corncribbook_SameVersions.f k bt319.1 bt323.1).bind fun t327 => (if t327 = true then ((corncribbook_SpoilVersions.f k bt319.1).bind fun t328 => (if bt319.2 = bt323.2 then ((corncribbook_KeptVersions.f k t312 l0).bind fun t329 => (if t329 = true then ((corncriblaw11_works.f k).bind fun t330 => (some t330)) else (some false))) else (some false))) else ((corncribbook_SpoilVersions.f k bt319.1).bind fun t331 => (some false)))) else ((corncribbook_SpoilVersions.f k bt319.1).bind fun t332 => (some false))) else ((corncribbook_SpoilVersions.f k bt319.1).bind fun t333 => (some false)))))) = some r := H
  have A4 := Aside0.mk A40
  clear A40
  replace H := Option.bind_eq_some_iff.mp H
  obtain ⟨⟨t317, t318⟩, A50, H⟩ := H
  replace H : ((chain_Add.f k t312 a1_0 a1_1 a1_2).bind fun bt319 => ((corncribref11_Add.f k l0 a1_0 a1_1 a1_2).bind fun bt323 => (if t315 = t317 then (if t316 = t318 then ((corncribbook_SameVersions.f k bt319.1 bt323.1).bind fun t327 => (if t327 = true then ((corncribbook_SpoilVersions.f k bt319.1).bind fun t328 => (if bt319.2 = bt323.2 then ((corncribbook_KeptVersions.f k t312 l0).bind fun t329 => (if t329 = true then ((corncriblaw11_works.f k).bind fun t330 => (some t330)) else (some false))) else (some false))) else ((corncribbook_SpoilVersions.f k bt319.1).bind fun t331 => (some false)))) else ((corncribbook_SpoilVersions.f k bt319.1).bind fun t332 => (some false))) else ((corncribbook_SpoilVersions.f k bt319.1).bind fun t333 => (some false))))) = some r := H
  have A5 := Aside0.mk A50
  clear A50
  replace H := Option.bind_eq_some_iff.mp H
  obtain ⟨⟨t319, t322⟩, A60, H⟩ := H
  replace H : ((corncribref11_Add.f k l0 a1_0 a1_1 a1_2).bind fun bt323 => (if t315 = t317 then (if t316 = t318 then ((corncribbook_SameVersions.f k t319 bt323.1).bind fun t327 => (if t327 = true then ((corncribbook_SpoilVersions.f k t319).bind fun t328 => (if t322 = bt323.2 then ((corncribbook_KeptVersions.f k t312 l0).bind fun t329 => (if t329 = true then ((corncriblaw11_works.f k).bind fun t330 => (some t330)) else (some false))) else (some false))) else ((corncribbook_SpoilVersions.f k t319).bind fun t331 => (some false)))) else ((corncribbook_SpoilVersions.f k t319).bind fun t332 => (some false))) else ((corncribbook_SpoilVersions.f k t319).bind fun t333 => (some false)))) = some r := H
  have A6 := Aside0.mk A60
  clear A60
  replace H := Option.bind_eq_some_iff.mp H
  obtain ⟨⟨t323, t326⟩, A70, H⟩ := H
  replace H : (if t315 = t317 then (if t316 = t318 then ((corncribbook_SameVersions.f k t319 t323).bind fun t327 => (if t327 = true then ((corncribbook_SpoilVersions.f k t319).bind fun t328 => (if t322 = t326 then ((corncribbook_KeptVersions.f k t312 l0).bind fun t329 => (if t329 = true then ((corncriblaw11_works.f k).bind fun t330 => (some t330)) else (some false))) else (some false))) else ((corncribbook_SpoilVersions.f k t319).bind fun t331 => (some false)))) else ((corncribbook_SpoilVersions.f k t319).bind fun t332 => (some false))) else ((corncribbook_SpoilVersions.f k t319).bind fun t333 => (some false))) = some r := H
  have A7 := Aside0.mk A70
  clear A70
  by_cases c8 : t315 = t317
  · rw [if_pos c8] at H
    have c8b0 : (t315 == t317) = true := beq_iff_eq.mpr c8
    have c8b1 : (t315 != t317) = false := bne_eq_false_iff_eq.mpr c8
    clear c8
    by_cases c9 : t316 = t318
    · rw [if_pos c9] at H
      have c9b0 : (t316 == t318) = true := beq_iff_eq.mpr c9
      have c9b1 : (t316 != t318) = false := bne_eq_false_iff_eq.mpr c9
      clear c9
      replace H := Option.bind_eq_some_iff.mp H
      obtain ⟨t327, A100, H⟩ := H
      replace H : (if t327 = true then ((corncribbook_SpoilVersions.f k t319).bind fun t328 => (if t322 = t326 then ((corncribbook_KeptVersions.f k t312 l0).bind fun t329 => (if t329 = true then ((corncriblaw11_works.f k).bind fun t330 => (some t330)) else (some false))) else (some false))) else ((corncribbook_SpoilVersions.f k t319).bind fun t331 => (some false))) = some r := H
      have A10 := Aside0.mk A100
      clear A100
      by_cases c11 : t327 = true
      · subst c11
        have H1 : ((corncribbook_SpoilVersions.f k t319).bind fun t328 => (if t322 = t326 then ((corncribbook_KeptVersions.f k t312 l0).bind fun t329 => (if t329 = true then ((corncriblaw11_works.f k).bind fun t330 => (some t330)) else (some false))) else (some false))) = some r := by rw [if_pos rfl] at H; exact H
        clear H
        have H := H1
        clear H1
        replace H := Option.bind_eq_some_iff.mp H
        obtain ⟨t328, A120, H⟩ := H
        replace H : (if t322 = t326 then ((corncribbook_KeptVersions.f k t312 l0).bind fun t329 => (if t329 = true then ((corncriblaw11_works.f k).bind fun t330 => (some t330)) else (some false))) else (some false)) = some r := H
        have A12 := Aside0.mk A120
        clear A120
        by_cases c13 : t322 = t326
        · rw [if_pos c13] at H
          have c13b0 : (t322 == t326) = true := beq_iff_eq.mpr c13
          have c13b1 : (t322 != t326) = false := bne_eq_false_iff_eq.mpr c13
          clear c13
          replace H := Option.bind_eq_some_iff.mp H
          obtain ⟨t329, A140, H⟩ := H
          replace H : (if t329 = true then ((corncriblaw11_works.f k).bind fun t330 => (some t330)) else (some false)) = some r := H
          have A14 := Aside0.mk A140
          clear A140
          by_cases c15 : t329 = true
          · subst c15
            have H1 : ((corncriblaw11_works.f k).bind fun t330 => (some t330)) = some r := by rw [if_pos rfl] at H; exact H
            clear H
            have H := H1
            clear H1
            replace H := Option.bind_eq_some_iff.mp H
            obtain ⟨t330, A160, H⟩ := H
            replace H : (some t330) = some r := H
            have A16 := Aside0.mk A160
            clear A160
            obtain rfl := Option.some.inj H
            go_enter Try.func4, Try.ntmps4
            go_wp2_with (first | ((with_reducible refine gate_dst (N := 3) rfl ?_); refine box_event ?hg (N := 3) ?hd (cs := #[.int .i64 a1_0, .string a1_1, .bool a1_2]) (t := 25) ?hr ?_; (case hd => rfl); (case hg => rfl); (case hr => first | (go_simp; done) | (go_simp; rfl)); intro gb311 hg w17 hbox hb; have n0_ := Aside0.mk (below_step (by repeat (first | (with_reducible first | exact HB.out | apply below_alloc | apply pw_below_drewN | apply below_drew1) | exact HB.out)) hb); have n1_ := Aside0.mk (hbox); have n2_ := Aside0.mk ((by rw [hg]; exact (below_size (by repeat (first | (with_reducible first | exact HB.out | apply below_alloc | apply pw_below_drewN | apply below_drew1) | exact HB.out))) : w.heap.size ≤ gb311)); have n3_ := Aside0.mk ((by rw [hg]; exact (below_size (by repeat (first | (with_reducible first | exact HB.out | apply below_alloc | apply pw_below_drewN | apply below_drew1) | exact HB.out))) : w.heap.size ≤ gb311)); clear HB; have HB := n0_; have BK311 := n1_; have GW311 := n2_; have GE311 := n3_; clear n0_ n1_ n2_ n3_; clear hb hbox hg) | ((with_reducible refine gate_callee (f := 8) rfl ?_); refine goesL_ (some 16) rfl rfl Try.func8 (by kernel_rfl) rfl #[.slice A0 l0.length c0] rfl (by (try simp only [List.map_toArray, List.map_cons, List.map_nil]); first | done | rfl | (simp only [List.length_drop, List.length_take]; rfl)) ?_; (with_reducible refine (corncribbook_LendVersions.calls _ _ l0 t312 _ ?side1 ?side2 A3.out).mono ?_); (case side1 => repeat (first | exact (Kd.C_below HR0.out HB.out) | (with_reducible refine Kd.C_alloc ?_ _) | (with_reducible refine Kd.C_drewN ?_ _) | (with_reducible refine Kd.C_drew ?_))); (case side2 => exact HC0.out); rintro e w18 ⟨v313, rfl, ho0, hb⟩; refine ⟨_, rfl, ?_⟩; have n0_ := Aside0.mk (RL_lower (RL_newB ho0 (g := gb311) (o := .cells #[.int .i64 a1_0, .string a1_1, .bool a1_2] 25 (0, 0)) (by (with_reducible repeat (first | refine blk_drewN ?_ _ | refine blk_drew ?_ | refine blk_alloc ?_ _)); exact BK311.out)) (below_size (by repeat (first | (with_reducible first | exact HB.out | apply below_alloc | apply pw_below_drewN | apply below_drew1 | refine below_set ?_ GE311.out) | exact HB.out)))); have n1_ := Aside0.mk (blk_below (g := gb311) (o := .cells #[.int .i64 a1_0, .string a1_1, .bool a1_2] 25 (0, 0)) (by (with_reducible repeat (first | refine blk_drewN ?_ _ | refine blk_drew ?_ | refine blk_alloc ?_ _)); exact BK311.out) hb); have n2_ := Aside0.mk (below_step (by repeat (first | (with_reducible first | exact HB.out | apply below_alloc | apply pw_below_drewN | apply below_drew1 | refine below_set ?_ GE311.out) | exact HB.out)) hb); clear BK311; clear HB; have HO314 := n0_; have BK311 := n1_; have HB := n2_; clear n0_ n1_ n2_; (try clear hb); (try clear hb2); (try clear hk); (try clear hi); (try clear ho0); obtain ⟨Ao19, co19, eo19⟩ := Kd.R_slice HO314.out.1; subst eo19) | ((with_reducible refine gate_callee (f := 19) rfl ?_); refine goesL_ (some 19) rfl rfl Try.func19 (by kernel_rfl) rfl #[.slice Ao19 t312.length co19] rfl (by (try simp only [List.map_toArray, List.map_cons, List.map_nil]); first | done | rfl | (simp only [List.length_drop, List.length_take]; rfl)) ?_; (with_reducible refine (chain_Check.calls k _ _ t312 t315 t316 _ ?side1 ?side2 A4.out).mono ?_); (case side1 => repeat (first | exact (Kd.R_reads' HO314.out.1).2.2 | (with_reducible refine Kd.C_alloc ?_ _) | (with_reducible refine Kd.C_drewN ?_ _) | (with_reducible refine Kd.C_drew ?_))); (case side2 => exact (Kd.R_reads' HO314.out.1).2.1); rintro e w20 ⟨rfl, hb⟩; refine ⟨_, rfl, ?_⟩; have n0_ := Aside0.mk (RL_below (by (with_reducible repeat (first | apply RL_alloc | apply RL_drewN | apply RL_drew)); exact HO314.out) hb); have n1_ := Aside0.mk (blk_below (g := gb311) (o := .cells #[.int .i64 a1_0, .string a1_1, .bool a1_2] 25 (0, 0)) (by (with_reducible repeat (first | refine blk_drewN ?_ _ | refine blk_drew ?_ | refine blk_alloc ?_ _)); exact BK311.out) hb); have n2_ := Aside0.mk (below_step (by repeat (first | (with_reducible first | exact HB.out | apply below_alloc | apply pw_below_drewN | apply below_drew1 | refine below_set ?_ GE311.out) | exact HB.out)) hb); clear HO314; clear BK311; clear HB; have HO314 := n0_; have BK311 := n1_; have HB := n2_; clear n0_ n1_ n2_; (try clear hb); (try clear hb2); (try clear hk); (try clear hi)) | ((with_reducible refine gate_callee (f := 20) rfl ?_); refine goesL_ (some 24) rfl rfl Try.func20 (by kernel_rfl) rfl #[.slice A0 l0.length c0] rfl (by (try simp only [List.map_toArray, List.map_cons, List.map_nil]); first | done | rfl | (simp only [List.length_drop, List.length_take]; rfl)) ?_; (with_reducible refine (corncribref11_Check.calls k _ _ l0 t317 t318 _ ?side1 ?side2 A5.out).mono ?_); (case side1 => repeat (first | exact (Kd.C_below HR0.out HB.out) | (with_reducible refine Kd.C_alloc ?_ _) | (with_reducible refine Kd.C_drewN ?_ _) | (with_reducible refine Kd.C_drew ?_))); (case side2 => exact HC0.out); rintro e w' ⟨rfl, ⟨nd, rfl⟩⟩; refine ⟨_, rfl, ?_⟩; have hcz21_0 : w20.cell? ⟨gb311, 0, none⟩ = some (.int .i64 a1_0) := (blk_cell BK311.out 0).trans rfl; have hcz21_1 : w20.cell? ⟨gb311, 1, none⟩ = some (.string a1_1) := (blk_cell BK311.out 1).trans rfl; have hcz21_2 : w20.cell? ⟨gb311, 2, none⟩ = some (.bool a1_2) := (blk_cell BK311.out 2).trans rfl; have hfz21_0 := blk_frozen BK311.out 0; have hfz21_1 := blk_frozen BK311.out 1; have hfz21_2 := blk_frozen BK311.out 2) | ((with_reducible refine gate_callee (f := 21) rfl ?_); refine goesL_ (some 30) rfl rfl Try.func21 (by kernel_rfl) rfl #[.slice Ao19 t312.length co19, .agg #[.int .i64 a1_0, .string a1_1, .bool a1_2]] rfl (by (try simp only [List.map_toArray, List.map_cons, List.map_nil]); first | done | rfl | (simp only [List.length_drop, List.length_take]; rfl)) ?_; (with_reducible refine (chain_Add.calls k (fun k_ => some k_ = (.slice Ao19 t312.length co19 : Value).ownBlock) _ _ t312 a1_0 a1_1 a1_2 t319 t322 _ ?side1 A6.out).mono ?_); (case side1 => exact Kd.R_V (Kd.R_tight rfl (HO314.out.1))); rintro e w22 ⟨v320, rfl, ho0, hb⟩; refine ⟨_, rfl, ?_⟩; have n0_ := Aside0.mk (RL_elder' (by (with_reducible repeat (first | apply RL_alloc | apply RL_drewN | apply RL_drew)); exact HO314.out) (Kd.R_base ho0) hb); have n1_ := Aside0.mk (Kd.R_lower (Kd.R_newB (Kd.R_new' (Kd.R_mono (ok' := fun k_ => True) ho0 (fun _ hk_ => trivial)) (Kd.R_lt (by (with_reducible repeat (first | apply Kd.R_alloc | apply Kd.R_drewN | apply Kd.R_drew)); exact HO314.out.1))) (g := gb311) (o := .cells #[.int .i64 a1_0, .string a1_1, .bool a1_2] 25 (0, 0)) (by (with_reducible repeat (first | refine blk_drewN ?_ _ | refine blk_drew ?_ | refine blk_alloc ?_ _)); exact BK311.out)) (below_size (by repeat (first | (with_reducible first | exact HB.out | apply below_alloc | apply pw_below_drewN | apply below_drew1 | refine below_set ?_ GE311.out) | exact HB.out)))); have n2_ := Aside0.mk (blk_below (g := gb311) (o := .cells #[.int .i64 a1_0, .string a1_1, .bool a1_2] 25 (0, 0)) (by (with_reducible repeat (first | refine blk_drewN ?_ _ | refine blk_drew ?_ | refine blk_alloc ?_ _)); exact BK311.out) hb); have n3_ := Aside0.mk (below_step (by repeat (first | (with_reducible first | exact HB.out | apply below_alloc | apply pw_below_drewN | apply below_drew1 | refine below_set ?_ GE311.out) | exact HB.out)) hb); clear HO314; clear BK311; clear HB; have HO314 := n0_; have HO321 := n1_; have BK311 := n2_; have HB := n3_; clear n0_ n1_ n2_ n3_; (try clear hb); (try clear hb2); (try clear hk); (try clear hi); (try clear ho0); have hcz23_0 : w22.cell? ⟨gb311, 0, none⟩ = some (.int .i64 a1_0) := (blk_cell BK311.out 0).trans rfl; have hcz23_1 : w22.cell? ⟨gb311, 1, none⟩ = some (.string a1_1) := (blk_cell BK311.out 1).trans rfl; have hcz23_2 : w22.cell? ⟨gb311, 2, none⟩ = some (.bool a1_2) := (blk_cell BK311.out 2).trans rfl; have hfz23_0 := blk_frozen BK311.out 0; have hfz23_1 := blk_frozen BK311.out 1; have hfz23_2 := blk_frozen BK311.out 2) | ((with_reducible refine gate_callee (f := 22) rfl ?_); refine goesL_ (some 36) rfl rfl Try.func22 (by kernel_rfl) rfl #[.slice A0 l0.length c0, .agg #[.int .i64 a1_0, .string a1_1, .bool a1_2]] rfl (by (try simp only [List.map_toArray, List.map_cons, List.map_nil]); first | done | rfl | (simp only [List.length_drop, List.length_take]; rfl)) ?_; (with_reducible refine (corncribref11_Add.calls k _ _ l0 a1_0 a1_1 a1_2 t323 t326 _ ?side1 ?side2 A7.out).mono ?_); (case side1 => repeat (first | exact (Kd.C_below HR0.out HB.out) | (with_reducible refine Kd.C_alloc ?_ _) | (with_reducible refine Kd.C_drewN ?_ _) | (with_reducible refine Kd.C_drew ?_))); (case side2 => exact HC0.out); rintro e w24 ⟨v324, rfl, ho0, hb⟩; refine ⟨_, rfl, ?_⟩; have n0_ := Aside0.mk (RL_elder' (by (with_reducible repeat (first | apply RL_alloc | apply RL_drewN | apply RL_drew)); exact HO314.out) (Kd.R_base ho0) hb); have n1_ := Aside0.mk (Kd.R_elder' (by (with_reducible repeat (first | apply Kd.R_alloc | apply Kd.R_drewN | apply Kd.R_drew)); exact HO321.out) (Kd.R_base ho0) hb); have n2_ := Aside0.mk (Kd.R_lower (Kd.R_newB (Kd.R_new' (Kd.R_new' ho0 (Kd.R_lt (by (with_reducible repeat (first | apply Kd.R_alloc | apply Kd.R_drewN | apply Kd.R_drew)); exact HO314.out.1))) (Kd.R_lt (by (with_reducible repeat (first | apply Kd.R_alloc | apply Kd.R_drewN | apply Kd.R_drew)); exact HO321.out))) (g := gb311) (o := .cells #[.int .i64 a1_0, .string a1_1, .bool a1_2] 25 (0, 0)) (by (with_reducible repeat (first | refine blk_drewN ?_ _ | refine blk_drew ?_ | refine blk_alloc ?_ _)); exact BK311.out)) (below_size (by repeat (first | (with_reducible first | exact HB.out | apply below_alloc | apply pw_below_drewN | apply below_drew1 | refine below_set ?_ GE311.out) | exact HB.out)))); have n3_ := Aside0.mk (blk_below (g := gb311) (o := .cells #[.int .i64 a1_0, .string a1_1, .bool a1_2] 25 (0, 0)) (by (with_reducible repeat (first | refine blk_drewN ?_ _ | refine blk_drew ?_ | refine blk_alloc ?_ _)); exact BK311.out) hb); have n4_ := Aside0.mk (below_step (by repeat (first | (with_reducible first | exact HB.out | apply below_alloc | apply pw_below_drewN | apply below_drew1 | refine below_set ?_ GE311.out) | exact HB.out)) hb); clear HO314; clear HO321; clear BK311; clear HB; have HO314 := n0_; have HO321 := n1_; have HO325 := n2_; have BK311 := n3_; have HB := n4_; clear n0_ n1_ n2_ n3_ n4_; (try clear hb); (try clear hb2); (try clear hk); (try clear hi); (try clear ho0); obtain ⟨Ao25, co25, eo25⟩ := Kd.R_slice HO321.out; subst eo25; obtain ⟨Ao26, co26, eo26⟩ := Kd.R_slice HO325.out; subst eo26) | (go_at_call 15; (with_reducible refine (corncribbook_SameVersions.calls k _ _ t319 _ _ t323 true _ ?side1 ?side2 ?side3 ?side4 A10.out).mono ?_); (case side1 => repeat (first | exact (Kd.R_reads' HO321.out).2.2 | (with_reducible refine Kd.C_alloc ?_ _) | (with_reducible refine Kd.C_drewN ?_ _) | (with_reducible refine Kd.C_drew ?_))); (case side2 => exact (Kd.R_reads' HO321.out).2.1); (case side3 => repeat (first | exact (Kd.R_reads' HO325.out).2.2 | (with_reducible refine Kd.C_alloc ?_ _) | (with_reducible refine Kd.C_drewN ?_ _) | (with_reducible refine Kd.C_drew ?_))); (case side4 => exact (Kd.R_reads' HO325.out).2.1); rintro e w' ⟨rfl, ⟨nd, rfl⟩⟩) | ((with_reducible refine gate_callee (f := 16) rfl ?_); refine goesL_ (some 60) rfl rfl Try.func16 (by kernel_rfl) rfl #[.slice Ao25 t319.length co25] rfl (by (try simp only [List.map_toArray, List.map_cons, List.map_nil]); first | done | rfl | (simp only [List.length_drop, List.length_take]; rfl)) ?_; (with_reducible refine (corncribbook_SpoilVersions.calls k (fun k_ => some k_ = (.slice Ao25 t319.length co25 : Value).ownBlock) (.slice Ao25 t319.length co25) t319 t328 w _ ?side1 ?side2 A12.out).mono ?_); (case side1 => repeat (first | (with_reducible first | exact HB.out | apply below_alloc | apply pw_below_drewN | apply below_drew1 | refine below_set ?_ GE311.out) | exact HB.out)); (case side2 => exact Kd.R_tight rfl HO321.out); rintro e w27 ⟨rfl, hy0, hb, hkp⟩; refine ⟨_, rfl, ?_⟩; have n0_ := Aside0.mk (blk_kept (by (with_reducible repeat (first | refine blk_drewN ?_ _ | refine blk_drew ?_ | refine blk_alloc ?_ _)); exact BK311.out) hkp (fun hs_ => (fun e_ => (Kd.R_away HO321.out (fun _ hk => hk.1.2)) e_) hs_)); have n1_ := Aside0.mk (RL_mono (ok' := fun k_ => some k_ ≠ (.slice Ao25 t319.length co25 : Value).ownBlock ∧ some k_ ≠ (.slice Ao26 t323.length co26 : Value).ownBlock ∧ k_ ≠ gb311) (RL_keptB (HO314.out) hkp (fun k_ hk_ hs_ => (hk_.1.2) hs_)) (fun k_ hk_ => ⟨hk_.1.1.2, hk_.1.2, hk_.1.1.1.2⟩)); have n2_ := Aside0.mk (Kd.R_reok rfl hy0 (fun k_ e_ => HO321.out.1 k_ e_)); have n3_ := Aside0.mk (Kd.R_mono (ok' := fun k_ => some k_ ≠ (.slice Ao19 t312.length co19 : Value).ownBlock ∧ some k_ ≠ (.slice Ao25 t319.length co25 : Value).ownBlock ∧ k_ ≠ gb311) (Kd.R_keptB (HO325.out) hkp (fun k_ hk_ hs_ => (hk_.1.2) hs_)) (fun k_ hk_ => ⟨hk_.1.1.1.2, hk_.1.1.2, hk_.1.2⟩)); have n4_ := Aside0.mk (hb); clear BK311; clear HO314; clear HO321; clear HO325; clear HB; have BK311 := n0_; have HO314 := n1_; have HO321 := n2_; have HO325 := n3_; have HB := n4_; clear n0_ n1_ n2_ n3_ n4_; (try clear hb); (try clear hkp); (try clear hy0)) | (go_at_call 17; (with_reducible refine (corncribbook_KeptVersions.calls k _ _ t312 _ _ l0 true _ ?side1 ?side2 ?side3 ?side4 A14.out).mono ?_); (case side1 => repeat (first | exact RL_C HO314.out | (with_reducible refine Kd.C_alloc ?_ _) | (with_reducible refine Kd.C_drewN ?_ _) | (with_reducible refine Kd.C_drew ?_))); (case side2 => exact RL_cap HO314.out); (case side3 => repeat (first | exact (Kd.C_below HR0.out HB.out) | (with_reducible refine Kd.C_alloc ?_ _) | (with_reducible refine Kd.C_drewN ?_ _) | (with_reducible refine Kd.C_drew ?_))); (case side4 => exact HC0.out); rintro e w' ⟨rfl, ⟨nd, rfl⟩⟩) | (go_at_call 18; (with_reducible refine (corncriblaw11_works.calls k  t330 _ A16.out).mono ?_); rintro e w28 ⟨rfl, hb⟩; have n0_ := Aside0.mk (RL_below (by (with_reducible repeat (first | apply RL_alloc | apply RL_drewN | apply RL_drew)); exact HO314.out) hb); have n1_ := Aside0.mk (Kd.R_below (by (with_reducible repeat (first | apply Kd.R_alloc | apply Kd.R_drewN | apply Kd.R_drew)); exact HO321.out) hb); have n2_ := Aside0.mk (Kd.R_below (by (with_reducible repeat (first | apply Kd.R_alloc | apply Kd.R_drewN | apply Kd.R_drew)); exact HO325.out) hb); have n3_ := Aside0.mk (blk_below (g := gb311) (o := .cells #[.int .i64 a1_0, .string a1_1, .bool a1_2] 25 (0, 0)) (by (with_reducible repeat (first | refine blk_drewN ?_ _ | refine blk_drew ?_ | refine blk_alloc ?_ _)); exact BK311.out) hb); have n4_ := Aside0.mk (below_step (by repeat (first | (with_reducible first | exact HB.out | apply below_alloc | apply pw_below_drewN | apply below_drew1 | refine below_set ?_ GE311.out) | exact HB.out)) hb); clear HO314; clear HO321; clear HO325; clear BK311; clear HB; have HO314 := n0_; have HO321 := n1_; have HO325 := n2_; have BK311 := n3_; have HB := n4_; clear n0_ n1_ n2_ n3_ n4_; (try clear hb); (try clear hb2); (try clear hk); (try clear hi)))
            go_ret
            exact ⟨by first | rfl | (simp [errW_none, errW_some] <;> rfl) | (simp [*, errW_none, errW_some] <;> rfl), by repeat (first | (with_reducible first | exact HB.out | apply below_alloc | apply pw_below_drewN | apply below_drew1 | refine below_set ?_ GE311.out) | exact HB.out)⟩
          · replace c15 := Bool.eq_false_iff.mpr c15
            subst c15
            have H1 : (some false) = some r := by rw [if_neg (show ¬ (false = true) by decide)] at H; exact H
            clear H
            have H := H1
            clear H1
            exact absurd (H.trans (congrArg some HRT.out)) (by simp)
        · rw [if_neg c13] at H
          have c13b0 : (t322 == t326) = false := beq_eq_false_iff_ne.mpr c13
          have c13b1 : (t322 != t326) = true := bne_iff_ne.mpr c13
          exact absurd (H.trans (congrArg some HRT.out)) (by simp)
      · replace c11 := Bool.eq_false_iff.mpr c11
        subst c11
        have H1 : ((corncribbook_SpoilVersions.f k t319).bind fun t331 => (some false)) = some r := by rw [if_neg (show ¬ (false = true) by decide)] at H; exact H
        clear H
        have H := H1
        clear H1
        replace H := Option.bind_eq_some_iff.mp H
        obtain ⟨t331, A510, H⟩ := H
        replace H : (some false) = some r := H
        have A51 := Aside0.mk A510
        clear A510
        exact absurd (H.trans (congrArg some HRT.out)) (by simp)
    · rw [if_neg c9] at H
      have c9b0 : (t316 == t318) = false := beq_eq_false_iff_ne.mpr c9
      have c9b1 : (t316 != t318) = true := bne_iff_ne.mpr c9
      replace H := Option.bind_eq_some_iff.mp H
      obtain ⟨t332, A630, H⟩ := H
      replace H : (some false) = some r := H
      have A63 := Aside0.mk A630
      clear A630
      exact absurd (H.trans (congrArg some HRT.out)) (by simp)
  · rw [if_neg c8] at H
    have c8b0 : (t315 == t317) = false := beq_eq_false_iff_ne.mpr c8
    have c8b1 : (t315 != t317) = true := bne_iff_ne.mpr c8
    replace H := Option.bind_eq_some_iff.mp H
    obtain ⟨t333, A740, H⟩ := H
    replace H : (some false) = some r := H
    have A74 := Aside0.mk A740
    clear A740
    exact absurd (H.trans (congrArg some HRT.out)) (by simp)

end Go.Proofs.Ytpkccaoeglbcfaa.Al
