/- chain.until by its contract: how many versions, of a chain whose times rise, are not above a time. Its closure and sort.Search are walked here. -/
import Derived.Test.YtpkccaoeglbcfaaF0
namespace Go.Proofs.Ytpkccaoeglbcfaa.Al
open Go.RowKit Go.Proofs.YtpkccaoeglbcfaaW.PrintWords Go.Proofs.YtpkccaoeglbcfaaW.PrintLast Go.Proofs.YtpkccaoeglbcfaaW.PrintMore
set_option linter.unusedVariables false
set_option linter.unusedSimpArgs false
def rises : List S25 → Bool
  | [] => true
  | [_] => true
  | x :: y :: l => decide (x.f0 < y.f0) && rises (y :: l)
def upto (l : List S25) (t : Int) : Nat := (l.takeWhile fun v => decide (v.f0 ≤ t)).length
def chain_until.f (l0 : List S25) (a1 : Int) : Option Int := if l0.length ≤ 4398046511104 ∧ rises l0 = true then some (upto l0 a1 : Int) else none
theorem rises_tail {x : S25} {l : List S25} (h : rises (x :: l) = true) : rises l = true := by
  cases l with
  | nil => rfl
  | cons y l => simp only [rises, Bool.and_eq_true] at h; exact h.2
theorem rises_head : ∀ (l : List S25) (x : S25), rises (x :: l) = true → ∀ y ∈ l, x.f0 < y.f0
  | [], _, _, y, hy => by simp at hy
  | z :: l, x, h, y, hy => by
    simp only [rises, Bool.and_eq_true, decide_eq_true_eq] at h
    rcases List.mem_cons.1 hy with rfl | hy
    · exact h.1
    · have := rises_head l z h.2 y hy
      omega
theorem upto_at : ∀ (l : List S25) (t : Int) (b : Nat), b ≤ l.length → (∀ (m : Nat) (v : S25), m < b → l[m]? = some v → v.f0 ≤ t) → (∀ v, l[b]? = some v → t < v.f0) → upto l t = b
  | [], t, b, hb, _, _ => by simp at hb; subst hb; rfl
  | x :: l, t, 0, _, _, h2 => by
    have := h2 x rfl
    unfold upto
    rw [List.takeWhile_cons, if_neg (by simpa using this)]
    rfl
  | x :: l, t, b + 1, hb, h1, h2 => by
    have h0 := h1 0 x (by omega) rfl
    have ih := upto_at l t b (by simpa using hb) (fun m v hm hv => h1 (m + 1) v (by omega) (by simpa using hv)) (fun v hv => h2 v (by simpa using hv))
    unfold upto at ih ⊢
    rw [List.takeWhile_cons, if_pos (by simpa using h0), List.length_cons, ih]
theorem rises_at : ∀ (l : List S25) (m m' : Nat) (u v : S25), rises l = true → m < m' → l[m]? = some u → l[m']? = some v → u.f0 < v.f0
  | [], _, _, _, _, _, _, h, _ => by simp at h
  | x :: l, 0, m' + 1, u, v, hr, _, hu, hv => by
    simp at hu hv
    subst hu
    exact rises_head l x hr v (List.mem_of_getElem? hv)
  | x :: l, m + 1, m' + 1, u, v, hr, hm, hu, hv => rises_at l m m' u v (rises_tail hr) (by omega) (by simpa using hu) (by simpa using hv)
theorem rdT {l : List S25} {i : Nat} {v : S25} (h : l[i]? = some v) : rd_T25 l (i : Int) = v := by simp [rd_T25, List.getD_eq_getElem?_getD, h]
set_option maxHeartbeats 400000 in
set_option maxRecDepth 100000 in
theorem until1_calls (i p q : Nat) (A0 : Option Addr) (c0 : Nat) (l0 : List S25) (t : Int) (w : World) (hp : w.cell? ⟨p, 0, none⟩ = some (.slice A0 l0.length c0)) (hq : w.cell? ⟨q, 0, none⟩ = some (.int .i64 t)) (hr0 : Kd.C k25 w A0 l0.length l0) (hi : i < l0.length) (hl : l0.length ≤ 4398046511104) :
    Calls Try.prog 29 #[.int .i64 i, .pointer (some ⟨p, 0, none⟩), .pointer (some ⟨q, 0, none⟩)] w fun e w' => e = .returned (.bool (decide (t < (rd_T25 l0 i).f0))) ∧ ∃ nd, w' = w.drewN nd := by
  obtain ⟨ad, rfl, hx0, _, _⟩ := at_T25 hr0 (i : Int) (by omega) (by omega)
  rw [Int.toNat_natCast] at hx0
  generalize rd_T25 l0 (i : Int) = v at hx0 ⊢
  clear hr0
  have c1 : decide ((i : Int) < (l0.length : Int)) = true := decide_eq_true (by omega)
  have c2 : decide (i < l0.length) = true := decide_eq_true hi
  have c3 : (0 : Int) ≤ (i : Int) := by omega
  have hu25 := Try.underlying25
  go_enter Try.func29, Try.ntmps29
  go_wp2
  go_quiet (fail)
  go_wp2
  go_ret
  exact ⟨rfl, _, rfl⟩
set_option maxHeartbeats 400000 in
set_option maxRecDepth 100000 in
theorem search_calls (p q : Nat) (A0 : Option Addr) (c0 : Nat) (l0 : List S25) (t : Int) (w : World) (hp : w.cell? ⟨p, 0, none⟩ = some (.slice A0 l0.length c0)) (hq : w.cell? ⟨q, 0, none⟩ = some (.int .i64 t)) (hr0 : Kd.C k25 w A0 l0.length l0) (hl : l0.length ≤ 4398046511104) (hr : rises l0 = true) :
    Calls Try.prog 28 #[.int .i64 l0.length, .func (.func 29) #[] #[.pointer (some ⟨p, 0, none⟩), .pointer (some ⟨q, 0, none⟩)]] w fun e w' => e = .returned (.int .i64 (upto l0 t)) ∧ ∃ nd, w' = w.drewN nd := by
  have HP := Aside0.mk hp
  have HQ := Aside0.mk hq
  have HR0 := Aside0.mk hr0
  have HR := Aside0.mk hr
  clear hp hq hr0 hr
  go_enter Try.func28, Try.ntmps28
  go_wp2_with fail
  go_loopw [5, 6, 7] (fun i j h wr => ∃ a b : Nat, a ≤ b ∧ b ≤ l0.length ∧ i = .int .i64 a ∧ j = .int .i64 b ∧ Aside0 (∃ nd, wr = w.drewN nd) ∧ Aside0 (∀ (m : Nat) (v : S25), m < a → l0[m]? = some v → v.f0 ≤ t) ∧ Aside0 (∀ v, l0[b]? = some v → t < v.f0)) (fun i j _ _ => (intOf j - intOf i).toNat)
  case atStart => exact ⟨0, l0.length, Nat.zero_le _, Nat.le_refl _, rfl, rfl, ⟨0, rfl⟩, ⟨fun m v hm => absurd hm (by omega)⟩, ⟨fun v hv => by simp at hv⟩⟩
  case round =>
    obtain ⟨a, b, hab, hbn, rfl, rfl, HW, HA, HZ⟩ := hrel
    obtain ⟨nd, rfl⟩ := HW.out
    clear HW
    by_cases hlt : a < b
    · have hm2 : (a + b) / 2 < l0.length := by omega
      have hget : l0[(a + b) / 2]? = some l0[(a + b) / 2] := List.getElem?_eq_getElem hm2
      have hv := rdT hget
      generalize l0[(a + b) / 2] = v at hget hv
      have HG := Aside0.mk hget
      have HV := Aside0.mk hv
      clear hget hv
      have em : ((a : Int) + (b : Int)) / 2 = (((a + b) / 2 : Nat) : Int) := by omega
      have HM := Aside0.mk em
      clear em
      by_cases hc : t < v.f0
      · have hc1 : decide (t < v.f0) = true := decide_eq_true hc
        go_wp2_with fail
        rw [HM.out]
        refine (until1_calls ((a + b) / 2) p q A0 c0 l0 t _ (by simpa using HP.out) (by simpa using HQ.out) (Kd.C_drewN HR0.out nd) hm2 hl).mono ?_
        rintro e w' ⟨rfl, nd', rfl⟩
        rw [HV.out, hc1]
        go_wp2
        go_roundw
        case rel => exact ⟨a, (a + b) / 2, by omega, by omega, rfl, rfl, ⟨⟨nd + nd', by simp⟩⟩, HA, ⟨fun u hu => by rw [HG.out] at hu; obtain rfl := Option.some.inj hu; exact hc⟩⟩
        case measure => simp [intOf]; omega
      · have hc1 : decide (t < v.f0) = false := decide_eq_false hc
        go_wp2_with fail
        rw [HM.out]
        refine (until1_calls ((a + b) / 2) p q A0 c0 l0 t _ (by simpa using HP.out) (by simpa using HQ.out) (Kd.C_drewN HR0.out nd) hm2 hl).mono ?_
        rintro e w' ⟨rfl, nd', rfl⟩
        rw [HV.out, hc1]
        go_wp2
        go_roundw
        case rel => exact ⟨(a + b) / 2 + 1, b, by omega, by omega, by go_num, rfl, ⟨⟨nd + nd', by simp⟩⟩, ⟨fun m u hm hu => by
          by_cases he : m = (a + b) / 2
          · subst he
            rw [HG.out] at hu; obtain rfl := Option.some.inj hu; omega
          · have := rises_at l0 m ((a + b) / 2) u v HR.out (by omega) hu HG.out; omega⟩, HZ⟩
        case measure => simp [intOf]; omega
    · obtain rfl : a = b := by omega
      have hu := upto_at l0 t a hbn HA.out HZ.out
      have HU := Aside0.mk hu
      clear hu
      go_wp2
      go_ret
      exact ⟨by rw [HU.out]; rfl, nd, rfl⟩
set_option maxHeartbeats 400000 in
set_option maxRecDepth 100000 in
theorem chain_until.calls (A0 : Option Addr) (c0 : Nat) (l0 : List (S25)) (a1 : Int) (r : Int) (w : World) (hr0 : Kd.C k25 w A0 l0.length l0) (hc0 : l0.length ≤ c0) (h : chain_until.f l0 a1 = some r) :
    Calls Try.prog 24 #[.slice A0 l0.length c0, .int .i64 a1] w fun e w' => e = .returned (.int .i64 r) ∧ Below w.heap.size w w' := by
  unfold chain_until.f at h
  split at h
  case isFalse => cases h
  rename_i hh
  obtain rfl := Option.some.inj h
  obtain ⟨hl, hr⟩ := hh
  clear h
  have HR := Aside0.mk hr
  have HR0 := Aside0.mk hr0
  clear hr hr0
  go_enter Try.func24, Try.ntmps24
  go_wp2_with fail
  refine (search_calls _ _ A0 c0 l0 a1 _ ?h1 ?h2 ?h3 hl HR.out).mono ?_
  case h1 => simp
  case h2 => simp
  case h3 => exact Kd.C_alloc (Kd.C_alloc HR0.out _) _
  rintro e w' ⟨rfl, nd, rfl⟩
  go_wp2
  go_ret
  exact ⟨rfl, pw_below_drewN (below_alloc (below_alloc (Below.refl _ _) _) _) _⟩
end Go.Proofs.Ytpkccaoeglbcfaa.Al
