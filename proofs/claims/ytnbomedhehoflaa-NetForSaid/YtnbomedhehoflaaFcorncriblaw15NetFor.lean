/- The walk of NetFor. -/
import Derived.Test.YtnbomedhehoflaaPhb
namespace Go.Proofs.Ytnbomedhehoflaa.Al
open Go.RowKit Go.Proofs.YtnbomedhehoflaaW.PrintWords Go.Proofs.YtnbomedhehoflaaW.PrintLast Go.Proofs.YtnbomedhehoflaaW.PrintMore
set_option linter.unusedVariables false
set_option linter.unusedSimpArgs false
def corncriblaw15_NetFor.f (l0 : List Int) : Option Bool := some true
theorem send_fl (l0 : List Int) {i : Nat} (h : i < 60) : sendE 60 (FL l0 i) (plS ((i : Int) + 1) (l0.getD i 0 % 12)) = 0 ∧ sendL 60 (FL l0 i) (plS ((i : Int) + 1) (l0.getD i 0 % 12)) = FL l0 (i + 1) := by
  have hc := chk_plain (txn := (i : Int) + 1) (dst := l0.getD i 0 % 12) (by omega) (by omega) (by omega) (by omega)
  refine ⟨?_, ?_⟩
  · unfold sendE
    rw [if_neg (fun c => c hc), if_neg (by rw [FL_len]; omega)]
  · unfold sendL
    rw [if_neg (fun c => c hc), if_neg (by rw [FL_len]; omega), FL_succ]
theorem for_none (l0 : List Int) (n : Nat) : forL (FL l0 n) 100 n = [] := by
  refine List.eq_nil_iff_forall_not_mem.2 fun x hx => ?_
  obtain ⟨j, hj, h, _⟩ := forL_mem.1 hx
  rw [FL_get l0 hj] at h
  omega
set_option maxHeartbeats 16000000 in
set_option maxRecDepth 100000 in
theorem netfor_ok (A0 : Option Addr) (c0 : Nat) (l0 : List Int) (w : World) (hr0 : Kd.C (Kd.int .i64) w A0 l0.length l0) : Calls Try.prog 5 #[.slice A0 l0.length c0] w fun e w' => e = .returned (.bool true) ∧ Below w.heap.size w w' := by
  have HR0 := Aside0.mk hr0
  clear hr0
  obtain ⟨n, hn⟩ : ∃ n : Nat, n = min l0.length 60 := ⟨_, rfl⟩
  have hn60 : n ≤ 60 := by omega
  have hnl : n ≤ l0.length := by omega
  have hmin : (if (60 : Int) < (l0.length : Int) then 60 else (l0.length : Int)) = (n : Int) := by split <;> omega
  have hmin2 : (if (l0.length : Int) < 60 then (l0.length : Int) else 60) = (n : Int) := by split <;> omega
  clear hn
  go_enter Try.func5, Try.ntmps5
  go_wp2_with (first | (go_at_call 8; refine (z_new w _ (Below.refl _ _) 60 (by decide) (by decide)).mono ?_; rintro e w1 ⟨g, rfl, hn, hb⟩; have HN1 := Aside0.mk hn; clear hn hb) | (go_at_call 9; refine (works_calls _).mono ?_; rintro e w2 ⟨rfl, hb⟩; have HN2 := Aside0.mk (HN1.out.below hb); clear hb))
  go_loopw [30] (fun v30 wr => ∃ i : Nat, v30 = .int .i64 i ∧ i ≤ n ∧ Aside0 (NZ w wr g 60 (fun _ => False) (FL l0 i))) (fun v30 _ => n - (intOf v30).toNat)
  case atStart => exact ⟨0, rfl, Nat.zero_le _, HN2⟩
  case round =>
    obtain ⟨i, rfl, hi, HQ⟩ := hrel
    clear HN1 HN2 hmin hmin2
    by_cases hlt : i < n
    · have b1 : decide ((i : Int) < (n : Int)) = true := decide_eq_true (by omega)
      have b2 : decide ((i : Int) < (l0.length : Int)) = true := decide_eq_true (by omega)
      have b3 : decide (i < l0.length) = true := decide_eq_true (by omega)
      have b4 : decide (i < n) = true := decide_eq_true hlt
      have hil : i < l0.length := by omega
      obtain ⟨ad, eA, hx⟩ := Kd.at_int (Kd.C_below HR0.out HQ.out.bel) (i : Int) (by omega) (by omega)
      rw [Int.toNat_natCast] at hx
      have HI := Aside0.mk hlt
      subst eA
      obtain ⟨x, hxx⟩ : ∃ x, x = rd l0 (i : Int) := ⟨_, rfl⟩
      rw [← hxx] at hx
      have HX : Aside0 (l0.getD i 0 = x) := ⟨by rw [hxx]; unfold rd; rw [Int.toNat_natCast]⟩
      have q1 : wrap64 ((i : Int) + 1) = (i : Int) + 1 := by unfold wrap64; omega
      have q2 : IntKind.i64.wrap ((i : Int) + 1) = (i : Int) + 1 := by rw [IntKind.wrap_i64]; omega
      have HSE := Aside0.mk (send_fl l0 (i := i) (by omega)).1
      have HSL := Aside0.mk (send_fl l0 (i := i) (by omega)).2
      rw [HX.out] at HSE HSL
      have h12 : 1 ≤ (i : Int) + 1 ∧ (i : Int) + 1 ≤ 60 := ⟨by omega, by omega⟩
      clear hxx
      go_wp2_with (first | (go_at_call 14; (with_reducible refine (amongt_calls x 12 (by decide) (by decide) _).mono ?_); rintro e u1 ⟨rfl, hb⟩; have HQ1 := Aside0.mk (HQ.out.below hb); clear hb) | (go_at_call 11; refine (plain_calls ((i : Int) + 1) (x % 12) _).mono ?_; rintro e u2 ⟨v7, v8, rfl, hr, hb⟩; have HR2 := Aside0.mk hr; have HQ2 := Aside0.mk (HQ1.out.below hb); clear hr hb) | (go_at_call 10; refine (z_send HQ2.out (by decide) HR2.out (Nat.zero_le _) (Nat.zero_le _)).mono ?_; rintro e u3 ⟨rfl, hn, _⟩; rw [HSE.out]; rw [HSL.out] at hn; have HQ3 := Aside0.mk hn; clear hn))
      go_roundw
      case rel => exact ⟨i + 1, by go_num, HI.out, HQ3⟩
      case measure => have := HI.out; simp [intOf]; omega
    · obtain rfl : i = n := by omega
      have b1 : decide ((i : Int) < (i : Int)) = false := decide_eq_false (by omega)
      clear hlt hi
      go_wp2_with ((with_reducible refine gate_dst (N := 46) rfl ?_); refine Kd.R_make Kd.bool (w0 := w) w.heap.size 4 rfl (N := 46) rfl 46 (.tmp 45) (.tmp 45) rfl (i : Int) rfl rfl Try.underlying46 (.bool false) 1 info4 rfl Nat.one_pos (by decide) false (ok := fun _ => True) (okp := fun _ => True) ?mz (fun _ _ => trivial) trivial (by omega) (by omega) HQ.out.bel HQ.out.bel.size ?_; (case mz => exact rfl); intro vb wb ho hb hg hat; rw [Int.toNat_natCast] at ho; obtain ⟨Ab, cb, hvb⟩ := Kd.R_slice ho; rw [List.length_replicate] at hvb; subst hvb; have HF0 := Aside0.mk (FB.mk (HQ.out.below ⟨hg.os, hg.tape, hg.output, hg.size, fun k hk => hg.block k hk (by simp)⟩) ho); clear ho hb hg hat)
      have HT0 : Aside0 ((List.replicate i false).length = i ∧ ∀ j, j < i → (List.replicate i false).getD j true = decide (l0.getD j 0 % 12 < ((0 : Nat) : Int))) := ⟨List.length_replicate, fun j hj => by rw [List.getD_eq_getElem?_getD, List.getElem?_replicate, if_pos hj, decide_eq_false (by omega)]; rfl⟩
      clear HQ
      go_loopw [47] (fun v47 wr => ∃ (t : Nat) (T : List Bool), v47 = .int .i64 t ∧ t ≤ 12 ∧ Aside0 (FB w wr g (FL l0 i) (.slice Ab i cb) T) ∧ Aside0 (T.length = i ∧ ∀ j, j < i → T.getD j true = decide (l0.getD j 0 % 12 < (t : Int)))) (fun v47 _ => 12 - (intOf v47).toNat)
      case atStart => exact ⟨0, _, rfl, Nat.zero_le _, HF0, HT0⟩
      case round =>
        obtain ⟨t, T, rfl, ht, HF, HT⟩ := hrel
        clear HF0 HT0
        by_cases ht12 : t < 12
        · have c1 : decide ((t : Int) < 12) = true := decide_eq_true (by omega)
          have c2 : decide (t < 12) = true := decide_eq_true ht12
          have HI := Aside0.mk ht12
          clear ht12
          go_wp2_with (go_at_call 17; refine (z_for HF.out.net (by rw [FL_len]; omega) (t : Int)).mono ?_; rintro e w5 ⟨vp, rfl, hp, hb⟩; rw [FL_len] at hp; obtain ⟨P, hP⟩ : ∃ P, P = forL (FL l0 i) (t : Int) i := ⟨_, rfl⟩; rw [← hP] at hp; obtain ⟨Ap, cp, hvp⟩ := Kd.R_slice hp; obtain ⟨m, hm⟩ : ∃ m, m = P.length := ⟨_, rfl⟩; rw [← hm] at hvp; subst hvp; have HP := Aside0.mk hP; have HM := Aside0.mk hm; have HF5 := Aside0.mk (HF.out.below hb); have HR5 := Aside0.mk (Kd.R_lower hp HF.out.bel.size); clear hp hb hP hm)
          have hm60 : m ≤ i := by rw [HM.out, HP.out]; exact forL_len _ _ _
          have HT5 : Aside0 (T.length = i ∧ ∀ j, j < i → T.getD j true = (decide (l0.getD j 0 % 12 < (t : Int)) || decide ((j : Int) ∈ P.take 0))) := ⟨HT.out.1, fun j hj => by rw [HT.out.2 j hj]; simp⟩
          go_loopw [54] (fun v54 wr => ∃ (k : Nat) (T' : List Bool), v54 = .int .i64 k ∧ k ≤ m ∧ Aside0 (FB w wr g (FL l0 i) (.slice Ab i cb) T') ∧ Aside0 ((Kd.int .i64).R 3 wr w.heap.size (fun _ => True) (.slice Ap m cp) P) ∧ Aside0 (T'.length = i ∧ ∀ j, j < i → T'.getD j true = (decide (l0.getD j 0 % 12 < (t : Int)) || decide ((j : Int) ∈ P.take k)))) (fun v54 _ => m - (intOf v54).toNat)
          case atStart => exact ⟨0, T, rfl, Nat.zero_le _, HF5, HR5, HT5⟩
          case round =>
            obtain ⟨k, T', rfl, hk, HFk, HRk, HTk⟩ := hrel
            clear HF5 HR5 HT5 HF HT
            by_cases hkm : k < m
            · have d1 : decide ((k : Int) < (m : Int)) = true := decide_eq_true (by omega)
              have d2 : decide (k < m) = true := decide_eq_true hkm
              obtain ⟨a, ha, han, hfa, hnot⟩ := forL_at (l := FL l0 i) (too := (t : Int)) (i := i) (k := k) (by rw [← HP.out, ← HM.out]; exact hkm)
              rw [← HP.out] at ha hnot
              rw [FL_get l0 han] at hfa
              obtain ⟨gP, hgP⟩ : ∃ gP, Ap = some ⟨gP, 0, none⟩ := by
                obtain ⟨gP, cap, e, _⟩ := Kd.R_form HRk.out (by rw [← HM.out]; omega)
                injection e with e _ _
                exact ⟨gP, e⟩
              subst hgP
              have hcell := int_at HRk.out k hkm
              rw [ha] at hcell
              obtain ⟨gz, hgz⟩ : ∃ gz, Ab = some ⟨gz, 0, none⟩ := by
                obtain ⟨gz, cap, e, _⟩ := HFk.out.b.form (by rw [HTk.out.1]; omega)
                injection e with e _ _
                exact ⟨gz, e⟩
              subst hgz
              obtain ⟨hc, hz⟩ := HFk.out.b.celln HTk.out.1 a han
              have HTa : Aside0 (T'.getD a true = false) := ⟨by rw [HTk.out.2 a han, decide_eq_false (by omega), decide_eq_false hnot]; rfl⟩
              rw [HTa.out] at hc
              obtain ⟨ad, eA, hx⟩ := Kd.at_int (Kd.C_below HR0.out HFk.out.bel) (a : Int) (by omega) (by omega)
              rw [Int.toNat_natCast] at hx
              subst eA
              obtain ⟨x, hxx⟩ : ∃ x, x = rd l0 (a : Int) := ⟨_, rfl⟩
              rw [← hxx] at hx
              have HX : Aside0 (x % 12 = (t : Int)) := ⟨by rw [← hfa, hxx]; unfold rd; rw [Int.toNat_natCast]⟩
              have e1 : decide ((a : Int) < 0) = false := decide_eq_false (by omega)
              have e2 : decide ((i : Int) ≤ (a : Int)) = false := decide_eq_false (by omega)
              have e3 : decide (i ≤ a) = false := decide_eq_false (by omega)
              have e4 : decide ((a : Int) < (l0.length : Int)) = true := decide_eq_true (by omega)
              have e5 : decide (a < l0.length) = true := decide_eq_true (by omega)
              have e6 : decide ((a : Int) < (i : Int)) = true := decide_eq_true (by omega)
              have hal : a < l0.length := by omega
              have e7 : decide (a < i) = true := decide_eq_true han
              have HKM := Aside0.mk hkm
              have HNOT := Aside0.mk hnot
              have HPA := Aside0.mk ha
              have HAN := Aside0.mk han
              have HTN : Aside0 (∀ j, j < i → (T'.set a true).getD j true = (decide (l0.getD j 0 % 12 < (t : Int)) || decide ((j : Int) ∈ P.take (k + 1)))) := ⟨fun j hj => by
                rw [T_set HTk.out.1 han j hj, HTk.out.2 j hj, Bool.or_assoc]
                congr 1
                rw [← Bool.decide_or]
                refine decide_eq_decide.2 ?_
                rw [take_mem (by rw [← HM.out]; exact HKM.out), HPA.out]
                exact or_congr Iff.rfl ⟨fun h => by rw [h], fun h => by omega⟩⟩
              clear hxx ha hnot hfa
              go_wp2_with (first | (go_at_call 14; (with_reducible refine (amongt_calls x 12 (by decide) (by decide) _).mono ?_); rintro e u1 ⟨rfl, hb⟩; rw [HX.out]; have HF6 := Aside0.mk (HFk.out.below hb); have HR6 := Aside0.mk (Kd.R_below HRk.out hb); clear hb hc hz; obtain ⟨hc, hz⟩ := HF6.out.b.celln HTk.out.1 a HAN.out) | ((with_reducible refine gate_store (t := 4) (p := 82) rfl ?_); refine store_event (t := 4) (p := 82) (v := ?vo1) (w1 := (u1.setCell ⟨gz, a, none⟩ (.bool true))) ?hg1 ?ho1 ?hn1 ?hr1 ?_; (case ho1 => rfl); (case hg1 => rfl); (case hn1 => rfl); (case hr1 => first | (go_simp; done) | (go_simp; rfl)); intro w8 hw; obtain ⟨hs1, cz, hs2⟩ := HF6.out.set HTk.out.1 (Nat.lt_of_le_of_lt (Nat.zero_le _) HAN.out) a true; have HF8 := Aside0.mk hs1; have HR8 := Aside0.mk (Kd.R_set HR6.out hs2 (by decide) a (.bool true)); rw [← hw] at HF8 HR8; clear hw hc hz hs1 hs2))
              go_roundw
              case rel => exact ⟨k + 1, T'.set a true, by go_num, HKM.out, HF8, HR8, ⟨by rw [List.length_set]; exact HTk.out.1, HTN.out⟩⟩
              case measure => have := HKM.out; simp [intOf]; omega
            · obtain rfl : k = m := by omega
              have d1 : decide ((k : Int) < (k : Int)) = false := decide_eq_false (by omega)
              go_wp2
              go_roundw
              case rel => exact ⟨t + 1, T', by go_num, HI.out, HFk, ⟨HTk.out.1, fun j hj => by
                rw [HTk.out.2 j hj, ← Bool.decide_or]
                refine decide_eq_decide.2 ?_
                rw [List.take_of_length_le (by rw [← HM.out]; exact Nat.le_refl _), HP.out, forL_mem]
                constructor
                · rintro (h | ⟨j', h1, h2, h3⟩)
                  · omega
                  · rw [FL_get l0 h1] at h2
                    obtain rfl : j' = j := by omega
                    omega
                · intro h
                  by_cases h' : l0.getD j 0 % 12 < (t : Int)
                  · exact .inl h'
                  · exact .inr ⟨j, hj, by rw [FL_get l0 hj]; omega, rfl⟩⟩⟩
              case measure => have := HI.out; simp [intOf]; omega
        · obtain rfl : t = 12 := by omega
          have c1 : decide (((12 : Nat) : Int) < 12) = false := by decide
          clear ht ht12
          go_wp2
          go_loopw [87] (fun v87 wr => ∃ k : Nat, v87 = .int .i64 k ∧ k ≤ i ∧ Aside0 (FB w wr g (FL l0 i) (.slice Ab i cb) T)) (fun v87 _ => i - (intOf v87).toNat)
          case atStart => exact ⟨0, rfl, Nat.zero_le _, HF⟩
          case round =>
            obtain ⟨k, rfl, hk, HFk⟩ := hrel
            clear HF
            by_cases hki : k < i
            · have d1 : decide ((k : Int) < (i : Int)) = true := decide_eq_true (by omega)
              have d2 : decide (k < i) = true := decide_eq_true hki
              obtain ⟨gz, hgz⟩ : ∃ gz, Ab = some ⟨gz, 0, none⟩ := by
                obtain ⟨gz, cap, e, _⟩ := HFk.out.b.form (by rw [HT.out.1]; omega)
                injection e with e _ _
                exact ⟨gz, e⟩
              subst hgz
              obtain ⟨hc, hz⟩ := HFk.out.b.celln HT.out.1 k hki
              have HTa : Aside0 (T.getD k true = true) := ⟨by rw [HT.out.2 k hki, decide_eq_true (by omega)]⟩
              rw [HTa.out] at hc
              have HKI := Aside0.mk hki
              go_wp2
              go_roundw
              case rel => exact ⟨k + 1, by go_num, HKI.out, HFk⟩
              case measure => have := HKI.out; simp [intOf]; omega
            · obtain rfl : k = i := by omega
              have d1 : decide ((k : Int) < (k : Int)) = false := decide_eq_false (by omega)
              go_wp2_with (go_at_call 17; refine (z_for HFk.out.net (by rw [FL_len]; omega) 100).mono ?_; rintro e w5 ⟨vp, rfl, hp, hb⟩; rw [FL_len, for_none] at hp; obtain ⟨Ap, cp, hvp⟩ := Kd.R_slice hp; subst hvp; have HB9 := Aside0.mk (below_step (w := w) HFk.out.bel hb); clear hp hb)
              go_ret
              exact ⟨rfl, HB9.out⟩
theorem corncriblaw15_NetFor.calls (A0 : Option Addr) (c0 : Nat) (l0 : List Int) (r : Bool) (w : World) (hr0 : Kd.C (Kd.int .i64) w A0 l0.length l0) (hc0 : l0.length ≤ c0) (h : corncriblaw15_NetFor.f l0 = some r) (hr_ : r = true) :
    Calls Try.prog 5 #[.slice A0 l0.length c0] w fun e w' => e = .returned (.bool r) ∧ Below w.heap.size w w' := by
  subst hr_
  exact netfor_ok A0 c0 l0 w hr0
end Go.Proofs.Ytnbomedhehoflaa.Al
