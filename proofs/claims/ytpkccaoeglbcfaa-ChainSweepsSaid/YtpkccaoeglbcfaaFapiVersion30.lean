/- slices.Grow of nil at one element type: own texts in the printer's form. -/
import Derived.Test.YtpkccaoeglbcfaaF0
namespace Go.Proofs.Ytpkccaoeglbcfaa.Al
open Go.RowKit Go.Proofs.YtpkccaoeglbcfaaW.PrintWords Go.Proofs.YtpkccaoeglbcfaaW.PrintLast Go.Proofs.YtpkccaoeglbcfaaW.PrintMore
set_option linter.unusedVariables false
set_option linter.unusedSimpArgs false
set_option maxHeartbeats 8000000 in
set_option maxRecDepth 100000 in
theorem grow_nil (n : Nat) (hn : n < 4398046511104) (w : World) :
    Calls Try.prog 30 #[.slice none 0 0, .int .i64 n] w fun e w' => ∃ v0_ : Value, e = .returned (v0_) ∧ Kd.R k25 25 w' w.heap.size (fun _ => True) v0_ [] ∧ Below w.heap.size w w' := by
  have HB := Aside0.mk (Below.refl w.heap.size w)
  have HN := Aside0.mk hn
  by_cases h0 : 0 < n
  · have c3 : decide (0 < n) = true := decide_eq_true h0
    have c1 : decide ((n : Int) < 0) = false := decide_eq_false (by omega)
    have c2 : decide ((0 : Int) < (n : Int)) = true := decide_eq_true (by omega)
    obtain ⟨i0, hi0, _, hsz, _⟩ := info_parts info25
    have HI := Aside0.mk hi0
    clear hi0 hsz
    have HO0 := Aside0.mk (Kd.R_nil k25 25 w w.heap.size (fun _ => True))
    have hz25 : ∀ W : World, k25.M W w.heap.size (fun _ => False) z25 (Value.agg #[.int .i64 0, .string ⟨#[]⟩, .bool false]).cells.toList := fun W => k25_mkM W _ _ z25
    have HZ := Aside0.mk hz25
    clear hz25
    have hcut0 := fun (W : World) => cut_to (P := Try.prog) 22 25 .i64 Try.underlying22 HI.out none 0 0 0 (by omega) (by omega) (by omega) W
    simp only [Int.toNat_zero] at hcut0
    clear h0
    go_enter Try.func30, Try.ntmps30
    go_wp2_with (first | ((with_reducible refine gate_builtin (b := .append) (xs := #[.tmp 20, .tmp 21]) rfl ?_); at_builtin; refine Kd.R_append_zeros k25 (w0 := w) w.heap.size rfl (.tmp 20) (.tmp 21) 22 3 25 (.agg #[.int .i64 0, .string ⟨#[]⟩, .bool false]) 32 rfl Try.underlying22 (k := .i64) Try.underlying3 info25 rfl (by decide) (by omega) (.slice none 0 0) [] z25 (kx := .i64) (n : Int) (fun _ => True) rfl rfl ?z1 (fun _ _ => trivial) ?z2 (by omega) ?z3 ?z4 ?z5 ?_; (case z1 => exact HZ.out _); (case z2 => exact HO0.out); (case z3 => exact HB.out); (case z4 => exact Nat.le_refl _); (case z5 => have := HN.out; simp only [List.length_nil, Int.toNat_natCast]; omega); intro v1 w1 ho hb hg hat; have HO := Aside0.mk ho; have HB1 := Aside0.mk hb; clear ho hb hg hat; obtain ⟨Ao, co, eo⟩ := Kd.R_slice HO.out; subst eo; have hc1 := fun (W : World) => cut_to (P := Try.prog) 22 25 .i64 Try.underlying22 HI.out Ao _ co 0 (by omega) (by omega) (Kd.R_reads' HO.out).2.1 W))
    go_ret
    exact ⟨_, rfl, by simpa using Kd.R_take HO.out (m := 0) (by simp), HB1.out⟩
  · obtain rfl : n = 0 := by omega
    clear h0
    go_enter Try.func30, Try.ntmps30
    obtain ⟨i0, hi0, _, hsz, _⟩ := info_parts info25
    have HI := Aside0.mk hi0
    clear hi0 hsz
    have hcut0 := fun (W : World) => cut_to (P := Try.prog) 22 25 .i64 Try.underlying22 HI.out none 0 0 0 (by omega) (by omega) (by omega) W
    simp only [Int.toNat_zero] at hcut0
    go_wp2_with fail
    go_ret
    exact ⟨_, rfl, Kd.R_nil k25 25 _ _ _, HB.out⟩
def api_Version_30.f (l0 : List S25) (a1 : Int) : Option (List S25) := if l0 = [] ∧ 0 ≤ a1 ∧ a1 < 4398046511104 then some [] else none
theorem api_Version_30.calls (A0 : Option Addr) (c0 : Nat) (l0 : List S25) (a1 : Int) (r : List S25) (w : World) (hr0 : Kd.C k25 w A0 l0.length l0) (hc0 : l0.length ≤ c0) (h : api_Version_30.f l0 a1 = some r) (hA : A0 = none ∧ c0 = 0 := by exact ⟨rfl, rfl⟩) :
    Calls Try.prog 30 #[.slice A0 l0.length c0, .int .i64 a1] w fun e w' => ∃ v0_ : Value, e = .returned (v0_) ∧ Kd.R k25 25 w' w.heap.size (fun _ => True) v0_ r ∧ Below w.heap.size w w' := by
  unfold api_Version_30.f at h
  split at h
  case isFalse => cases h
  rename_i hh
  obtain rfl := Option.some.inj h
  obtain ⟨rfl, h0, h1⟩ := hh
  obtain ⟨rfl, rfl⟩ := hA
  obtain ⟨n, rfl⟩ := Int.eq_ofNat_of_zero_le h0
  exact grow_nil n (by omega) w
end Go.Proofs.Ytpkccaoeglbcfaa.Al
