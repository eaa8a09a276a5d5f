/- gf.Dot and gf.Scale by their contracts. -/
import Derived.Test.YtcfkldbcmbgomaaGfPow
import Derived.Test.YtcfkldbcmbgomaaBytes
import Derived.Test.YtcfkldbcmbgomaaFcorncribref01Dot
import Derived.Test.YtcfkldbcmbgomaaFcorncribref01Scale
namespace Go.Proofs.Ytcfkldbcmbgomaa.Al
open Go.RowKit Go.Proofs.Ytcfkldbcmbgomaa.GfMath Go.Proofs.Ytcfkldbcmbgomaa.GfRef Go.Proofs.Ytcfkldbcmbgomaa.Base Go.Proofs.Ytcfkldbcmbgomaa.Bytes Go.Proofs.YtcfkldbcmbgomaaW.PrintWords Go.Proofs.YtcfkldbcmbgomaaW.PrintLast Go.Proofs.YtcfkldbcmbgomaaW.PrintMore
set_option linter.unusedVariables false
set_option linter.unusedSimpArgs false
def dotI (s t : ByteArray) : Int × Int := if s.size = t.size then (dotP s t s.size, 0) else (0, 4)
set_option maxHeartbeats 8000000 in
set_option maxRecDepth 100000 in
theorem gf_Dot.calls (g : Nat) (s t : ByteArray) (w : World) (ht : Tab w g) (hs : s.size ≤ 9223372036854775807) :
    Calls Try.prog 26 #[.pointer (some ⟨g, 0, none⟩), .string s, .string t] w fun e w' => e = .returned (.tuple #[.int .u8 (dotI s t).1, .int .i64 (dotI s t).2]) ∧ Drawn0 w w' := by
  have HT := Aside0.mk ht
  clear ht
  by_cases he : s.size = t.size
  · rw [show dotI s t = (dotP s t s.size, 0) from if_pos he]
    have c3b0 : ((s.size : Int) == (t.size : Int)) = true := by simp; omega
    have c3b1 : ((s.size : Int) != (t.size : Int)) = false := by simp; omega
    have c3b2 : (s.size == t.size) = true := by simpa using he
    have HE := Aside0.mk he
    clear he
    go_enter Try.func26, Try.ntmps26
    go_wp2
    repeat (go_quiet (fail); try go_wp2)
    go_loopw [8, 17] (fun v8 v17 w' => ∃ x7_1 : Int, v8 = .int .u8 (dotP s t x7_1.toNat) ∧ v17 = .int .i64 x7_1 ∧ 0 ≤ x7_1 ∧ x7_1 ≤ s.size ∧ Aside0 (∃ nd, w' = w.drewN nd)) (fun _ i _ => s.size - (intOf i).toNat)
    case atStart => exact ⟨0, rfl, rfl, by omega, by omega, by first | exact ⟨⟨_, rfl⟩⟩ | exact ⟨⟨0, rfl⟩⟩⟩
    case round =>
      obtain ⟨x7_1, rfl, rfl, h0, h1, HW⟩ := hrel
      obtain ⟨nd, rfl⟩ := HW.out
      clear HW
      clear c3b0 c3b1 c3b2
      by_cases c4 : x7_1 < (s.size : Int)
      · have c4b0 : decide (x7_1 < (s.size : Int)) = true := decide_eq_true c4
        have c5b0 : decide (0 ≤ x7_1) = true := decide_eq_true h0
        have c7b0 : decide (x7_1 < (t.size : Int)) = true := decide_eq_true (by have := HE.out; omega)
        have hx6 := bt_at s x7_1
        have hx8 := bt_at t x7_1
        have p6 := eq_true h0
        have q6 := eq_true c4
        have q8 : (x7_1 < (t.size : Int)) = True := eq_true (by have := HE.out; omega)
        have b1 := byte_bt s x7_1
        have b2 := byte_bt t x7_1
        have HD := Aside0.mk (show dotP s t (x7_1 + 1).toNat = Go.bits .xor .u8 (dotP s t x7_1.toNat) (mulI (bt s x7_1) (bt t x7_1)) from by
          obtain ⟨k, rfl⟩ := Int.eq_ofNat_of_zero_le h0
          rw [show ((k : Int) + 1).toNat = k + 1 from by omega, Int.toNat_natCast]
          rfl)
        clear HE
        go_wp2_with (first | (go_at_call 14; refine (gMul g _ _ _ (by repeat (first | exact HT.out | (with_reducible refine Tab.drewN ?_ _) | (with_reducible refine Tab.alloc ?_ _))) b1 b2).mono ?_; rintro e w' ⟨rfl, nd, rfl⟩; (try first | exact ⟨rfl, _, World.drewN_drewN _ _ _⟩ | exact ⟨rfl, _, Eq.trans (World.drewN_drewN _ _ _) (congrArg (World.drewN _) (Nat.add_assoc _ _ _))⟩)))
        repeat (go_quiet (first | (go_at_call 14; refine (gMul g _ _ _ (by repeat (first | exact HT.out | (with_reducible refine Tab.drewN ?_ _) | (with_reducible refine Tab.alloc ?_ _))) b1 b2).mono ?_; rintro e w' ⟨rfl, nd, rfl⟩; (try first | exact ⟨rfl, _, World.drewN_drewN _ _ _⟩ | exact ⟨rfl, _, Eq.trans (World.drewN_drewN _ _ _) (congrArg (World.drewN _) (Nat.add_assoc _ _ _))⟩))); try go_wp2)
        go_roundw
        case rel => exact ⟨x7_1 + 1, by rw [HD.out], rfl, by omega, by omega, by first | exact ⟨⟨_, rfl⟩⟩ | exact ⟨⟨_, World.drewN_drewN _ _ _⟩⟩⟩
        case measure => simp [intOf]; omega
      · have c4b0 : decide (x7_1 < (s.size : Int)) = false := decide_eq_false c4
        have hx : x7_1.toNat = s.size := by omega
        rw [hx]
        clear hx
        go_wp2
        repeat (go_quiet (fail); try go_wp2)
        go_ret2
        exact ⟨rfl, by repeat (first | exact Drawn0.refl _ | apply Drawn0.step)⟩
  · rw [show dotI s t = (0, 4) from if_neg he]
    have c3b0 : ((s.size : Int) == (t.size : Int)) = false := by simp; omega
    have c3b1 : ((s.size : Int) != (t.size : Int)) = true := by simp; omega
    have c3b2 : (s.size == t.size) = false := by simpa using he
    clear he
    go_enter Try.func26, Try.ntmps26
    go_wp2
    repeat (go_quiet (fail); try go_wp2)
    go_ret2
    exact ⟨rfl, by repeat (first | exact Drawn0.refl _ | apply Drawn0.step)⟩
def stepS (a : Int) (s : ByteArray) (k : Nat) (j : Nat) : Int := if j < k then mulI a (bt s j) else bt s j
theorem stepS_next (a : Int) (s : ByteArray) (k : Nat) (j : Nat) : (if j = k then mulI a (bt s k) else stepS a s k j) = stepS a s (k + 1) j := by
  unfold stepS
  by_cases h1 : j = k
  · subst h1; rw [if_pos rfl, if_pos (by omega)]
  · rw [if_neg h1]
    by_cases h2 : j < k
    · rw [if_pos h2, if_pos (by omega)]
    · rw [if_neg h2, if_neg (by omega)]
theorem stepS_all (a : Int) (s : ByteArray) : listOf s.size (stepS a s s.size) = scaleL a s := by
  apply List.ext_getElem?
  intro i
  by_cases h : i < s.size
  · rw [listOf_get _ _ _ h, scaleL, List.getElem?_map, List.getElem?_eq_getElem (by rw [bytesOf_length]; exact h)]
    have e := rd_bytesOf s i
    rw [rd, Int.toNat_natCast, List.getD_eq_getElem?_getD, List.getElem?_eq_getElem (by rw [bytesOf_length]; exact h)] at e
    simp only [Option.getD_some] at e
    rw [e]
    simp [stepS, h]
  · rw [List.getElem?_eq_none (by rw [listOf_length]; omega), List.getElem?_eq_none (by rw [scaleL_length]; omega)]
theorem Tab.far {w : World} {g : Nat} (h : Tab w g) {p : Addr} (hp : g ≠ p.block) (u : Value) : Tab (w.setCell p u) g := by
  obtain ⟨cs, hcs, hok⟩ := h
  exact ⟨cs, blk_far hcs hp u, hok⟩
set_option maxHeartbeats 8000000 in
set_option maxRecDepth 100000 in
theorem gf_Scale.calls (g : Nat) (a : Int) (s : ByteArray) (w : World) (ht : Tab w g) (ha : Byte a) (hs : s.size ≤ 140737488355328) :
    Calls Try.prog 28 #[.pointer (some ⟨g, 0, none⟩), .int .u8 a, .string s] w fun e w' => e = .returned (.string (strOfNums (scaleL a s))) ∧ Below w.heap.size w w' := by
  have hcv := fun W : World => print_bytes (P := Try.prog) 9 44 5 Try.underlying9 Try.underlying44 Try.underlying5 s W
  have hne : g ≠ w.heap.size := Nat.ne_of_lt ht.lt
  have HT := Aside0.mk (Tab.below ht (bytes_below (Below.refl _ w) (Nat.le_refl _) 5 s))
  have HB := Aside0.mk (bytes_below (Below.refl _ w) (Nat.le_refl _) 5 s)
  have HC := Aside0.mk (bc_conv w 5 s)
  have HN := Aside0.mk hne
  clear ht hne
  go_enter Try.func28, Try.ntmps28
  go_wp2
  generalize Lib.bytesWorld w 5 s = W0 at HT HB HC ⊢
  clear hcv
  go_loopw [13] (fun v13 wr => ∃ k : Nat, k ≤ s.size ∧ v13 = .int .i64 k ∧ Aside0 (Tab wr g) ∧ Aside0 (Below w.heap.size w wr) ∧ Aside0 (Bc wr w.heap.size s.size (stepS a s k))) (fun i _ => s.size - (intOf i).toNat)
  case atStart => exact ⟨0, Nat.zero_le _, rfl, HT, HB, ⟨HC.out.congr (fun j _ => by simp [stepS])⟩⟩
  case round =>
    obtain ⟨k, hk, rfl, HTr, HBr, HCr⟩ := hrel
    clear HT HB HC
    by_cases hlt : k < s.size
    · have hx : wr.cell? ⟨w.heap.size, k, none⟩ = some (.int .u8 (bt s k)) := by have := HCr.out.cell hlt; simpa [stepS] using this
      have hf := HCr.out.frozen hlt
      have b2 := byte_bt s k
      go_wp2_with (first | (go_at_call 14; refine (gMul g _ _ _ HTr.out ha b2).mono ?_; rintro e w' ⟨rfl, nd, rfl⟩))
      go_roundw
      case rel =>
        refine ⟨k + 1, by omega, by go_num, ⟨(HTr.out.drewN nd).far HN.out _⟩, ⟨below_set (pw_below_drewN HBr.out nd) (Nat.le_refl _)⟩, ⟨((HCr.out.drewN nd).set hlt _).congr (fun j _ => stepS_next a s k j)⟩⟩
      case measure => simp [intOf]; omega
    · obtain rfl : k = s.size := by omega
      have hst := Bc.string (c := grownCap w s.size 0 5) Try.underlying44 Try.underlying5 Try.underlying9 HCr.out (by omega)
      rw [stepS_all] at hst
      clear hk
      go_wp2
      go_ret
      exact ⟨rfl, HBr.out⟩
theorem rdot_l0 (s t : ByteArray) (he : s.size = t.size) (hs : s.size ≤ 9223372036854775807) : ∀ (d i : Nat), i + d = s.size → Ev (fun k => corncribref01_Dot.l0 k s t (dotP s t i) i) (dotP s t s.size, 0)
  | 0, i, h => by
    obtain rfl : i = s.size := by omega
    refine Ev.succ ?_
    simp only [corncribref01_Dot.l0]
    exact Ev.neg (by omega) (Ev.now _)
  | d + 1, i, h => by
    have ih := rdot_l0 s t he hs d (i + 1) (by omega)
    have e1 : wrap64 ((i : Int) + 1) = ((i + 1 : Nat) : Int) := by rw [wrap_id (by omega) (by omega)]; omega
    obtain ⟨m, hm⟩ := Int.eq_ofNat_of_zero_le (byte_bt s i).1
    obtain ⟨n, hn⟩ := Int.eq_ofNat_of_zero_le (byte_bt t i).1
    have hmul := rmul_ev (a := m) (b := n) (by have := (byte_bt s i).2; omega) (by have := (byte_bt t i).2; omega)
    have e2 : dotP s t (i + 1) = Go.bits .xor .u8 (dotP s t i) ((mulN m n : Nat) : Int) := by
      rw [dotP, hm, hn]; simp [mulI]
    rw [e2] at ih
    refine Ev.succ ?_
    simp only [corncribref01_Dot.l0]
    rw [e1, hm, hn]
    exact Ev.pos (by omega) (Ev.pos (by omega) (Ev.pos (by omega) (Ev.bind hmul ih)))
theorem rdot_ev (s t : ByteArray) (hs : s.size ≤ 9223372036854775807) : Ev (fun k => corncribref01_Dot.f k s t) (dotI s t) := by
  unfold corncribref01_Dot.f dotI
  by_cases he : s.size = t.size
  · rw [if_pos he]
    exact Ev.pos (by omega) (rdot_l0 s t he hs s.size 0 (by omega))
  · rw [if_neg he]
    exact Ev.neg (by omega) (Ev.now _)
theorem rscale_l0 {a : Int} (ha : Byte a) (s : ByteArray) (hs : s.size ≤ 140737488355328) : ∀ (d i : Nat), i + d = s.size → Ev (fun k => corncribref01_Scale.l0 k a s (listOf i fun j => mulI a (bt s j)) i) (strOfNums (listOf s.size fun j => mulI a (bt s j)))
  | 0, i, h => by
    obtain rfl : i = s.size := by omega
    refine Ev.succ ?_
    simp only [corncribref01_Scale.l0]
    exact Ev.neg (by omega) (Ev.now _)
  | d + 1, i, h => by
    have ih := rscale_l0 ha s hs d (i + 1) (by omega)
    have e1 : wrap64 ((i : Int) + 1) = ((i + 1 : Nat) : Int) := by rw [wrap_id (by omega) (by omega)]; omega
    obtain ⟨m, hm⟩ := Int.eq_ofNat_of_zero_le ha.1
    obtain ⟨n, hn⟩ := Int.eq_ofNat_of_zero_le (byte_bt s i).1
    have hmul := rmul_ev (a := m) (b := n) (by have := ha.2; omega) (by have := (byte_bt s i).2; omega)
    have e2 : (listOf (i + 1) fun j => mulI a (bt s j)) = (listOf i fun j => mulI a (bt s j)) ++ [((mulN m n : Nat) : Int)] := by
      simp only [listOf, List.range_succ, List.map_append, List.map_cons, List.map_nil]
      rw [hn, hm]; simp [mulI]
    rw [e2] at ih
    refine Ev.succ ?_
    simp only [corncribref01_Scale.l0]
    rw [e1, hn]
    conv => arg 1; intro k; rw [show corncribref01_Mul.f k a (n : Int) = corncribref01_Mul.f k (m : Int) (n : Int) from by rw [hm]]
    exact Ev.pos (by omega) (Ev.pos (by omega) (Ev.bind hmul (Ev.pos (by rw [listOf_length]; omega) ih)))
theorem rscale_ev {a : Int} (ha : Byte a) (s : ByteArray) (hs : s.size ≤ 140737488355328) : Ev (fun k => corncribref01_Scale.f k a s) (strOfNums (scaleL a s)) := by
  have h := rscale_l0 ha s hs s.size 0 (by omega)
  have e : listOf s.size (fun j => mulI a (bt s j)) = scaleL a s := by rw [← stepS_all]; exact listOf_congr fun i hi => by simp [stepS, hi]
  rw [e] at h
  exact h
theorem rDot (s t : ByteArray) (w : World) (hs : s.size ≤ 9223372036854775807) : Calls Try.prog 27 #[.string s, .string t] w fun e w' => e = .returned (.tuple #[.int .u8 (dotI s t).1, .int .i64 (dotI s t).2]) ∧ Drawn0 w w' := by
  obtain ⟨k, hk⟩ := Ev.rounds (rdot_ev s t hs)
  exact corncribref01_Dot.calls k s t _ _ w hk
theorem rScale {a : Int} (s : ByteArray) (w : World) (ha : Byte a) (hs : s.size ≤ 140737488355328) : Calls Try.prog 29 #[.int .u8 a, .string s] w fun e w' => e = .returned (.string (strOfNums (scaleL a s))) ∧ Below w.heap.size w w' := by
  obtain ⟨k, hk⟩ := Ev.rounds (rscale_ev ha s hs)
  exact corncribref01_Scale.calls k a s _ w hk
end Go.Proofs.Ytcfkldbcmbgomaa.Al
