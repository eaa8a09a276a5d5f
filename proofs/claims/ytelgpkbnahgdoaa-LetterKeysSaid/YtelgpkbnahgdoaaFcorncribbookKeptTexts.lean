/- One function of the program comes to what its plain twin says. This text began as the kit's own print (print.py, made by cprint.sh) and was turned by split.py: it is no printed file. -/
import Derived.Test.YtelgpkbnahgdoaaF0
import Derived.Test.YtelgpkbnahgdoaaLent
import Derived.Test.YtelgpkbnahgdoaaFaux0
import Derived.Test.YtelgpkbnahgdoaaFcorncribbookSameTexts
namespace Go.Proofs.Ytelgpkbnahgdoaa.Al
open Go.RowKit Go.Proofs.YtelgpkbnahgdoaaW.PrintWords Go.Proofs.YtelgpkbnahgdoaaW.PrintLast Go.Proofs.YtelgpkbnahgdoaaW.PrintMore
attribute [local go_sem] max2_int min2_int max_two min_two max_three min_three max_four min_four   -- for this text's walks alone
set_option linter.unusedVariables false
set_option linter.unusedSimpArgs false

/-! ### corncribbook_KeptTexts: function 22 -/
def markB : ByteArray := ⟨#[109, 97, 114, 107]⟩
def corncribbook_KeptTexts.f (k : Nat) (l0 : List ByteArray) (l1 : List ByteArray) : Option Bool := corncribbook_SameTexts.f k l0 l1
theorem corncribbook_KeptTexts.mono : ∀ a0 a1 k, LeO (corncribbook_KeptTexts.f k a0 a1) (corncribbook_KeptTexts.f (k + 1) a0 a1) := corncribbook_SameTexts.mono
theorem same_len {k : Nat} {l0 l1 : List ByteArray} (h : corncribbook_SameTexts.f k l0 l1 = some true) : l0.length = l1.length := by
  unfold corncribbook_SameTexts.f at h
  split at h
  · omega
  · simp at h
set_option maxHeartbeats 8000000 in
set_option maxRecDepth 100000 in
theorem corncribbook_KeptTexts.calls (k : Nat) (A0 : Option Addr) (c0 : Nat) (l0 : List ByteArray) (A1 : Option Addr) (c1 : Nat) (l1 : List ByteArray) (r : Bool) (w : World) (hr0 : Kd.C Kd.string w A0 (l0.length + 1) (l0 ++ [markB])) (hc0 : l0.length + 1 ≤ c0) (hr1 : Kd.C Kd.string w A1 l1.length l1) (hc1 : l1.length ≤ c1) (h : corncribbook_KeptTexts.f k l0 l1 = some r) :
    Calls Try.prog 22 #[.slice A0 l0.length c0, .slice A1 l1.length c1] w fun e w' => e = .returned (.bool r) ∧ Drawn0 w w' := by
  have hlen : (l0 ++ [markB]).length = l0.length + 1 := by simp
  have hr2 : Kd.C Kd.string w A0 l0.length l0 := by
    have := Kd.C_take (m := l0.length) (by rw [hlen]; exact hr0) (by simp)
    simpa using this
  have HR0 := Aside0.mk hr2
  have HC0 := Aside0.mk (show l0.length ≤ c0 by omega)
  have HR1 := Aside0.mk hr1
  have HC1 := Aside0.mk hc1
  have A3 := Aside0.mk (show corncribbook_SameTexts.f k l0 l1 = some r from h)
  cases r with
  | false =>
    clear hr0 hc0 hr1 hc1 hr2 hlen h
    go_enter Try.func22, Try.ntmps22
    go_wp2_with (first | ((with_reducible refine gate_callee (f := 34) rfl ?_); refine goesL_ (some 7) rfl rfl Try.func34 (by kernel_rfl) rfl #[.slice A0 l0.length c0, .slice A1 l1.length c1] rfl (by (try simp only [List.map_toArray, List.map_cons, List.map_nil]); first | done | rfl) ?_; (with_reducible refine (corncribbook_SameTexts.calls k _ _ l0 _ _ l1 false _ ?side1 ?side2 ?side3 ?side4 A3.out).mono ?_); (case side1 => repeat (first | exact HR0.out | (with_reducible refine Kd.C_alloc ?_ _) | (with_reducible refine Kd.C_drewN ?_ _) | (with_reducible refine Kd.C_drew ?_))); (case side2 => exact HC0.out); (case side3 => repeat (first | exact HR1.out | (with_reducible refine Kd.C_alloc ?_ _) | (with_reducible refine Kd.C_drewN ?_ _) | (with_reducible refine Kd.C_drew ?_))); (case side4 => exact HC1.out); rintro e w' ⟨rfl, ⟨nd, rfl⟩⟩; refine ⟨_, rfl, ?_⟩))
    go_ret
    exact ⟨by first | rfl | (simp; done) | (simp [*]; done), by repeat (first | exact Drawn0.refl _ | apply Drawn0.step)⟩
  | true =>
    have hll := same_len A3.out
    obtain ⟨ad, had, hx0⟩ := Kd.at_string hr0 (l1.length : Int) (by omega) (by omega)
    have hmark : rdOf ByteArray.empty (l0 ++ [markB]) (l1.length : Int) = markB := by
      simp [rdOf, List.getD_eq_getElem?_getD, ← hll]
    rw [hmark, Int.toNat_natCast] at hx0
    obtain ⟨i0, hi0, _, hsz, _⟩ := info_parts info9
    have hmax : l0.length + 1 ≤ 9223372036854775807 := Kd.C_max hr0
    have hcut : ∀ W : World, (Instr.slice 22 (.slice A0 l0.length c0) none (some (.int .i64 ((l1.length : Int) + 1))) none).run Try.prog W = .ok (.slice A0 ((l1.length : Int) + 1).toNat c0) W := cut_beyond (P := Try.prog) 22 9 .i64 Try.underlying22 hi0 A0 l0.length c0 ((l1.length : Int) + 1) (by omega) (by omega)
    rw [show ((l1.length : Int) + 1).toNat = l1.length + 1 from by omega] at hcut
    have hw1 : wrap64 ((l1.length : Int) + 1) = (l1.length : Int) + 1 := by unfold wrap64; omega
    have hm1 : l1.length < 9223372036854775807 := by omega
    subst had
    clear hr0 hc0 hr1 hc1 hr2 hlen h hmark hi0 hsz hmax hll
    unfold markB at hx0
    go_enter Try.func22, Try.ntmps22
    go_wp2_with (first | ((with_reducible refine gate_callee (f := 34) rfl ?_); refine goesL_ (some 7) rfl rfl Try.func34 (by kernel_rfl) rfl #[.slice (some ad) l0.length c0, .slice A1 l1.length c1] rfl (by (try simp only [List.map_toArray, List.map_cons, List.map_nil]); first | done | rfl) ?_; (with_reducible refine (corncribbook_SameTexts.calls k _ _ l0 _ _ l1 true _ ?side1 ?side2 ?side3 ?side4 A3.out).mono ?_); (case side1 => repeat (first | exact HR0.out | (with_reducible refine Kd.C_alloc ?_ _) | (with_reducible refine Kd.C_drewN ?_ _) | (with_reducible refine Kd.C_drew ?_))); (case side2 => exact HC0.out); (case side3 => repeat (first | exact HR1.out | (with_reducible refine Kd.C_alloc ?_ _) | (with_reducible refine Kd.C_drewN ?_ _) | (with_reducible refine Kd.C_drew ?_))); (case side4 => exact HC1.out); rintro e w' ⟨rfl, ⟨nd, rfl⟩⟩; refine ⟨_, rfl, ?_⟩))
    go_ret
    exact ⟨by first | rfl | (simp; done) | (simp [*]; done), by repeat (first | exact Drawn0.refl _ | apply Drawn0.step)⟩

end Go.Proofs.Ytelgpkbnahgdoaa.Al
