/- The field's functions by their contracts: products, quotients, inverses, powers, logs out of a table. -/
import Derived.Test.YtcfkldbcmbgomaaFgfNew
import Derived.Test.YtcfkldbcmbgomaaGfAlg
namespace Go.Proofs.Ytcfkldbcmbgomaa.Al
open Go.RowKit Go.Proofs.Ytcfkldbcmbgomaa.GfMath Go.Proofs.Ytcfkldbcmbgomaa.Base Go.Proofs.YtcfkldbcmbgomaaW.PrintWords Go.Proofs.YtcfkldbcmbgomaaW.PrintLast Go.Proofs.YtcfkldbcmbgomaaW.PrintMore
set_option linter.unusedVariables false
set_option linter.unusedSimpArgs false
def divN (a b : Nat) : Nat × Int := if b = 0 then (0, 1) else if a = 0 then (0, 0) else (E (L a + 255 - L b), 0)
def logN (a : Nat) : Int × Int := if a = 0 then (0, 1) else (L a, 0)
def expN (n : Int) : Nat := E (n % 255).toNat
theorem tab_exp {w : World} {g : Nat} (h : Tab w g) (n : Nat) (hn : n < 510) : w.cell? ⟨g, n, none⟩ = some (.int .u8 (E n)) := by
  obtain ⟨cs, hcs, hok⟩ := h
  rw [blk_cell hcs n]
  by_cases h1 : n < 255
  · exact (hok.exp n h1).1
  · have := (hok.exp (n - 255) (by omega)).2
    rw [show n - 255 + 255 = n from by omega] at this
    rw [this, ← E_period (n - 255), show n - 255 + 255 = n from by omega]
theorem tab_log {w : World} {g : Nat} (h : Tab w g) (a : Nat) (ha : a < 256) (h0 : a ≠ 0) : w.cell? ⟨g, 510 + a, none⟩ = some (.int .i64 (L a)) := by
  obtain ⟨cs, hcs, hok⟩ := h
  obtain ⟨h1, h2⟩ := E_L a ha h0
  rw [blk_cell hcs]
  have := hok.log (L a) h1
  rwa [h2] at this
theorem Tab.below {w w' : World} {g : Nat} (h : Tab w g) (hb : Below w.heap.size w w') : Tab w' g := by
  obtain ⟨cs, hcs, hok⟩ := h
  exact ⟨cs, blk_below hcs hb, hok⟩
theorem Tab.drewN {w : World} {g : Nat} (h : Tab w g) (n : Nat) : Tab (w.drewN n) g := h.below (pw_below_drewN (Below.refl _ _) n)
theorem Tab.alloc {w : World} {g : Nat} (h : Tab w g) (o : Obj) : Tab (w.alloc o) g := h.below (below_alloc (Below.refl _ _) o)
theorem Tab.lt {w : World} {g : Nat} (h : Tab w g) : g < w.heap.size := by
  obtain ⟨cs, hcs, _⟩ := h
  exact blk_lt hcs
set_option maxHeartbeats 8000000 in
set_option maxRecDepth 100000 in
theorem gf_Mul.calls (g a b : Nat) (w : World) (ht : Tab w g) (ha : a < 256) (hb : b < 256) :
    Calls Try.prog 14 #[.pointer (some ⟨g, 0, none⟩), .int .u8 a, .int .u8 b] w fun e w' => e = .returned (.int .u8 (mulN a b)) ∧ Drawn0 w w' := by
  by_cases ha0 : a = 0
  · subst ha0
    rw [show mulN 0 b = 0 from rfl]
    clear ht
    go_enter Try.func14, Try.ntmps14
    go_wp2
    go_ret
    exact ⟨rfl, by repeat (first | exact Drawn0.refl _ | apply Drawn0.step)⟩
  by_cases hb0 : b = 0
  · subst hb0
    rw [show mulN a 0 = 0 from by unfold mulN; rw [if_pos (Or.inr rfl)]]
    have c1 : ((a : Int) == 0) = false := by simp; omega
    clear ht
    go_enter Try.func14, Try.ntmps14
    go_wp2
    go_ret
    exact ⟨rfl, by repeat (first | exact Drawn0.refl _ | apply Drawn0.step)⟩
  have hx1 := tab_log ht a ha ha0
  have hx2 := tab_log ht b hb hb0
  have l1 := (E_L a ha ha0).1
  have l2 := (E_L b hb hb0).1
  have hx3 := tab_exp ht (L a + L b) (by omega)
  have hm : mulN a b = E (L a + L b) := by unfold mulN; rw [if_neg (by omega)]
  rw [hm]
  have c1 : ((a : Int) == 0) = false := by simp; omega
  have c2 : ((b : Int) == 0) = false := by simp; omega
  obtain ⟨la, ela⟩ : ∃ la : Int, (L a : Int) = la := ⟨_, rfl⟩
  obtain ⟨lb, elb⟩ : ∃ lb : Int, (L b : Int) = lb := ⟨_, rfl⟩
  have e3 : L a + L b = (la + lb).toNat := by omega
  have z1 : (0 : Int) ≤ (a : Int) := by omega
  have z2 : (0 : Int) ≤ (b : Int) := by omega
  have z3 : (a : Int) < 256 := by omega
  have z4 : (b : Int) < 256 := by omega
  have hs : (0 : Int) ≤ la + lb ∧ la + lb < 510 := by omega
  rw [e3] at hx3 ⊢
  rw [ela] at hx1
  rw [elb] at hx2
  generalize (E (la + lb).toNat : Int) = e at hx3 ⊢
  clear ht hm ela elb e3 l1 l2
  go_enter Try.func14, Try.ntmps14
  go_wp2
  go_quiet (fail)
  go_wp2
  go_ret
  exact ⟨rfl, by repeat (first | exact Drawn0.refl _ | apply Drawn0.step)⟩
set_option maxHeartbeats 8000000 in
set_option maxRecDepth 100000 in
theorem gf_Div.calls (g a b : Nat) (w : World) (ht : Tab w g) (ha : a < 256) (hb : b < 256) :
    Calls Try.prog 20 #[.pointer (some ⟨g, 0, none⟩), .int .u8 a, .int .u8 b] w fun e w' => e = .returned (.tuple #[.int .u8 (divN a b).1, .int .i64 (divN a b).2]) ∧ Drawn0 w w' := by
  by_cases hb0 : b = 0
  · subst hb0
    rw [show divN a 0 = (0, 1) from rfl]
    clear ht
    go_enter Try.func20, Try.ntmps20
    go_wp2
    go_ret2
    exact ⟨rfl, by repeat (first | exact Drawn0.refl _ | apply Drawn0.step)⟩
  by_cases ha0 : a = 0
  · subst ha0
    rw [show divN 0 b = (0, 0) from by unfold divN; rw [if_neg hb0, if_pos rfl]]
    have c1 : ((b : Int) == 0) = false := by simp; omega
    clear ht
    go_enter Try.func20, Try.ntmps20
    go_wp2
    go_ret2
    exact ⟨rfl, by repeat (first | exact Drawn0.refl _ | apply Drawn0.step)⟩
  have hx1 := tab_log ht a ha ha0
  have hx2 := tab_log ht b hb hb0
  have l1 := (E_L a ha ha0).1
  have l2 := (E_L b hb hb0).1
  have hx3 := tab_exp ht (L a + 255 - L b) (by omega)
  have hm : divN a b = (E (L a + 255 - L b), 0) := by unfold divN; rw [if_neg hb0, if_neg ha0]
  rw [hm]
  have c1 : ((a : Int) == 0) = false := by simp; omega
  have c2 : ((b : Int) == 0) = false := by simp; omega
  obtain ⟨la, ela⟩ : ∃ la : Int, (L a : Int) = la := ⟨_, rfl⟩
  obtain ⟨lb, elb⟩ : ∃ lb : Int, (L b : Int) = lb := ⟨_, rfl⟩
  have e3 : L a + 255 - L b = (la + 255 - lb).toNat := by omega
  have z1 : (0 : Int) ≤ (a : Int) := by omega
  have z2 : (0 : Int) ≤ (b : Int) := by omega
  have z3 : (a : Int) < 256 := by omega
  have z4 : (b : Int) < 256 := by omega
  have hs1 : (0 : Int) ≤ la ∧ la < 255 := by omega
  have hs : (0 : Int) ≤ la + 255 - lb := by omega
  have hs2 : la + 255 - lb < 510 := by omega
  rw [e3] at hx3 ⊢
  rw [ela] at hx1
  rw [elb] at hx2
  generalize (E (la + 255 - lb).toNat : Int) = e at hx3 ⊢
  clear ht hm ela elb e3 l1 l2
  go_enter Try.func20, Try.ntmps20
  go_wp2
  go_quiet (fail)
  go_wp2
  go_ret2
  exact ⟨rfl, by repeat (first | exact Drawn0.refl _ | apply Drawn0.step)⟩
set_option maxHeartbeats 8000000 in
set_option maxRecDepth 100000 in
theorem gf_Inv.calls (g a : Nat) (w : World) (ht : Tab w g) (ha : a < 256) :
    Calls Try.prog 18 #[.pointer (some ⟨g, 0, none⟩), .int .u8 a] w fun e w' => e = .returned (.tuple #[.int .u8 (divN 1 a).1, .int .i64 (divN 1 a).2]) ∧ Drawn0 w w' := by
  have HT := Aside0.mk ht
  clear ht
  go_enter Try.func18, Try.ntmps18
  go_wp2_with (go_at_call 20; refine (gf_Div.calls g 1 a _ HT.out (by omega) ha).mono ?_; rintro e w' ⟨rfl, nd, rfl⟩)
  go_ret2
  exact ⟨rfl, by repeat (first | exact Drawn0.refl _ | apply Drawn0.step)⟩
set_option maxHeartbeats 8000000 in
set_option maxRecDepth 100000 in
theorem gf_Log.calls (g a : Nat) (w : World) (ht : Tab w g) (ha : a < 256) :
    Calls Try.prog 22 #[.pointer (some ⟨g, 0, none⟩), .int .u8 a] w fun e w' => e = .returned (.tuple #[.int .i64 (logN a).1, .int .i64 (logN a).2]) ∧ Drawn0 w w' := by
  by_cases ha0 : a = 0
  · subst ha0
    rw [show logN 0 = (0, 1) from rfl]
    clear ht
    go_enter Try.func22, Try.ntmps22
    go_wp2
    go_ret2
    exact ⟨rfl, by repeat (first | exact Drawn0.refl _ | apply Drawn0.step)⟩
  have hx1 := tab_log ht a ha ha0
  have hm : logN a = ((L a : Int), 0) := by unfold logN; rw [if_neg ha0]
  rw [hm]
  have c1 : ((a : Int) == 0) = false := by simp; omega
  have z1 : (0 : Int) ≤ (a : Int) := by omega
  have z3 : (a : Int) < 256 := by omega
  clear ht hm
  go_enter Try.func22, Try.ntmps22
  go_wp2
  try go_quiet (fail)
  try go_wp2
  go_ret2
  exact ⟨rfl, by repeat (first | exact Drawn0.refl _ | apply Drawn0.step)⟩
set_option maxHeartbeats 8000000 in
set_option maxRecDepth 100000 in
theorem gf_Exp.calls (g : Nat) (n : Int) (w : World) (ht : Tab w g) :
    Calls Try.prog 24 #[.pointer (some ⟨g, 0, none⟩), .int .i64 n] w fun e w' => e = .returned (.int .u8 (expN n)) ∧ Drawn0 w w' := by
  have h2 : n % 255 < 255 := Int.emod_lt_of_pos n (by omega)
  have h3 : 0 ≤ n % 255 := Int.emod_nonneg n (by omega)
  have hx1 := tab_exp ht (n % 255).toNat (by omega)
  obtain ⟨t, et⟩ : ∃ t, Int.tmod n 255 = t := ⟨_, rfl⟩
  have ht1 : n % 255 = if t < 0 then t + 255 else t := by
    have h1 := Int.tmod_eq_emod (a := n) (b := 255)
    rw [et] at h1
    by_cases hd : 0 ≤ n ∨ (255 : Int) ∣ n
    · rw [if_pos hd] at h1
      rw [if_neg (by omega)]; omega
    · rw [if_neg hd] at h1
      have : ((255 : Int).natAbs : Int) = 255 := rfl
      have hnz : n % 255 ≠ 0 := fun hc => hd (Or.inr (Int.dvd_of_emod_eq_zero hc))
      rw [if_pos (by omega)]; omega
  unfold expN
  generalize n % 255 = m at hx1 ht1 h2 h3 ⊢
  have hw : IntKind.i64.wrap t = t := by rw [IntKind.wrap_i64]; split at ht1 <;> omega
  clear ht
  by_cases hneg : t < 0
  · rw [if_pos hneg] at ht1
    subst ht1
    generalize ((E (t + 255).toNat : Nat) : Int) = e at hx1 ⊢
    have hr : (0 : Int) ≤ t + 255 ∧ t + 255 < 510 := by omega
    go_enter Try.func24, Try.ntmps24
    go_wp2
    go_ret
    exact ⟨rfl, by repeat (first | exact Drawn0.refl _ | apply Drawn0.step)⟩
  · rw [if_neg hneg] at ht1
    subst ht1
    generalize ((E m.toNat : Nat) : Int) = e at hx1 ⊢
    have hr : (0 : Int) ≤ m ∧ m < 510 := by omega
    go_enter Try.func24, Try.ntmps24
    go_wp2
    go_ret
    exact ⟨rfl, by repeat (first | exact Drawn0.refl _ | apply Drawn0.step)⟩
end Go.Proofs.Ytcfkldbcmbgomaa.Al
