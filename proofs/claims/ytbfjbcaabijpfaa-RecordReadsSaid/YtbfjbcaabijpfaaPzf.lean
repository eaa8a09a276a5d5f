/- What the laws stand on, in one text: functions of the program by their contracts, the plain mathematics behind them, and such of the printed words as these use. It began as the kit's print and own texts; put together by a program (trim.py). -/
import Derived.Test.YtbfjbcaabijpfaaPze
namespace Go.Proofs.Ytbfjbcaabijpfaa.Al
open Go.RowKit Go.Proofs.YtbfjbcaabijpfaaW.PrintWords
theorem cfz9 {w : World} {g t : Nat} {c0 c1 c2 c3 c4 c5 c6 c7 c8 : Value} (h : w.heap[g]? = some (.cells #[c0, c1, c2, c3, c4, c5, c6, c7, c8] t (0, 0))) : w.cell? ⟨g, 0, none⟩ = some c0 ∧ w.frozen? ⟨g, 0, none⟩ = false ∧ w.cell? ⟨g, 1, none⟩ = some c1 ∧ w.frozen? ⟨g, 1, none⟩ = false ∧ w.cell? ⟨g, 2, none⟩ = some c2 ∧ w.frozen? ⟨g, 2, none⟩ = false ∧ w.cell? ⟨g, 3, none⟩ = some c3 ∧ w.frozen? ⟨g, 3, none⟩ = false ∧ w.cell? ⟨g, 4, none⟩ = some c4 ∧ w.frozen? ⟨g, 4, none⟩ = false ∧ w.cell? ⟨g, 5, none⟩ = some c5 ∧ w.frozen? ⟨g, 5, none⟩ = false ∧ w.cell? ⟨g, 6, none⟩ = some c6 ∧ w.frozen? ⟨g, 6, none⟩ = false ∧ w.cell? ⟨g, 7, none⟩ = some c7 ∧ w.frozen? ⟨g, 7, none⟩ = false ∧ w.cell? ⟨g, 8, none⟩ = some c8 ∧ w.frozen? ⟨g, 8, none⟩ = false := ⟨(blk_cell h 0).trans rfl, blk_frozen h 0, (blk_cell h 1).trans rfl, blk_frozen h 1, (blk_cell h 2).trans rfl, blk_frozen h 2, (blk_cell h 3).trans rfl, blk_frozen h 3, (blk_cell h 4).trans rfl, blk_frozen h 4, (blk_cell h 5).trans rfl, blk_frozen h 5, (blk_cell h 6).trans rfl, blk_frozen h 6, (blk_cell h 7).trans rfl, blk_frozen h 7, (blk_cell h 8).trans rfl, blk_frozen h 8⟩
end Go.Proofs.Ytbfjbcaabijpfaa.Al

namespace Go.Proofs.Ytbfjbcaabijpfaa.Al
open Go.RowKit Go.Proofs.YtbfjbcaabijpfaaW.PrintWords Go.Proofs.YtbfjbcaabijpfaaW.PrintLast Go.Proofs.YtbfjbcaabijpfaaW.PrintMore
attribute [local go_sem] max2_int min2_int max_two min_two max_three min_three max_four min_four   -- for this text's walks alone
set_option linter.unusedVariables false
set_option linter.unusedSimpArgs false
open Bool renaming true → T, false → F
mutual
def corncribref08_Check.j0 : Nat → Bool → Int → Int → Int → Int → ByteArray → ByteArray → Bool → List ByteArray → List (S50) → Option (Int)
 |0, _, _, _, _, _, _, _, _, _, _ => none
 |k + 1, x31, x183000, x183001, x183002, x183003, x183004, x183005, x183006, x183007, x183008 => if x31 = true then (some 80) else (if (x183007.length : Int) = 0 then (corncribref08_Check.j1 k ((x183008.length : Int) == 0) x183000 x183001 x183002 x183003 x183004 x183005 x183006 x183007 x183008) else (corncribref08_Check.j1 k false x183000 x183001 x183002 x183003 x183004 x183005 x183006 x183007 x183008))
def corncribref08_Check.j1 : Nat → Bool → Int → Int → Int → Int → ByteArray → ByteArray → Bool → List ByteArray → List (S50) → Option (Int)
 |0, _, _, _, _, _, _, _, _, _, _ => none
 |k + 1, x3, x183000, x183001, x183002, x183003, x183004, x183005, x183006, x183007, x183008 => if x183004.toList = ([] : List UInt8) then (if x183005.toList = ([] : List UInt8) then (corncribref08_Check.j2 k x3 (!x183006) x183000 x183001 x183002 x183003 x183004 x183005 x183006 x183007 x183008) else (corncribref08_Check.j2 k x3 false x183000 x183001 x183002 x183003 x183004 x183005 x183006 x183007 x183008)) else (corncribref08_Check.j2 k x3 false x183000 x183001 x183002 x183003 x183004 x183005 x183006 x183007 x183008)
def corncribref08_Check.j2 : Nat → Bool → Bool → Int → Int → Int → Int → ByteArray → ByteArray → Bool → List ByteArray → List (S50) → Option (Int)
 |0, _, _, _, _, _, _, _, _, _, _, _ => none
 |k + 1, x3, x4, x183000, x183001, x183002, x183003, x183004, x183005, x183006, x183007, x183008 => if x3 = true then (if x4 = true then (corncribref08_Check.j3 k x3 x4 (x183003 == 0) x183000 x183001 x183002 x183003 x183004 x183005 x183006 x183007 x183008) else (corncribref08_Check.j3 k x3 x4 false x183000 x183001 x183002 x183003 x183004 x183005 x183006 x183007 x183008)) else (corncribref08_Check.j3 k x3 x4 false x183000 x183001 x183002 x183003 x183004 x183005 x183006 x183007 x183008)
def corncribref08_Check.j3 : Nat → Bool → Bool → Bool → Int → Int → Int → Int → ByteArray → ByteArray → Bool → List ByteArray → List (S50) → Option (Int)
 |0, _, _, _, _, _, _, _, _, _, _, _, _ => none
 |k + 1, x3, x4, x5, x183000, x183001, x183002, x183003, x183004, x183005, x183006, x183007, x183008 => if x183000 = 1 then (if x4 = true then (if x183001 = 0 then (some 80) else (if (x183007.length : Int) ≤ 16 then ((corncribref07_Rising.f k x183007).bind fun t186 => (if t186 = true then ((corncribref07_Writes.f k x183008).bind fun t187 => (if t187 = true then (some 0) else (some 80))) else (some 80))) else (some 80))) else (some 80)) else (if x183000 = 2 then (if x5 = true then (if x183001 = 0 then (some 80) else (some 0)) else (some 80)) else (if x183000 = 3 then (if x3 = true then (if x183003 = 0 then (if x183001 = 0 then (if x183002 = 0 then (some 80) else ((corncribref07_Key.f x183004).bind fun t188 => (if t188 = true then (if (x183005.size : Int) ≤ 2052 then (if x183006 = true then (if (x183005.toList = ([] : List UInt8)) then (some 0) else (some 80)) else (some 0)) else (some 80)) else (some 80)))) else (some 80)) else (some 80)) else (some 80)) else (if x183000 = 4 then (if x5 = true then (if x183001 = 0 then (some 0) else (some 80)) else (some 80)) else (if x183000 = 5 then (if x5 = true then (if x183001 = 0 then (some 80) else (if x183002 = 0 then (some 80) else (some 0))) else (some 80)) else (if x183000 = 6 then (if x5 = true then (if x183001 = 0 then (some 80) else (if x183002 = 0 then (some 0) else (some 80))) else (some 80)) else (if x183000 = 7 then (if x5 = true then (if x183001 = 0 then (if x183002 = 0 then (some 80) else (some 0)) else (some 80)) else (some 80)) else (some 80)))))))
end
def corncribref08_Check.f (k : Nat) (a0_0 : Int) (a0_1 : Int) (a0_2 : Int) (a0_3 : Int) (a0_4 : ByteArray) (a0_5 : ByteArray) (a0_6 : Bool) (l0_7 : List ByteArray) (l0_8 : List (S50)) : Option (Int) := if a0_1 = 0 then ((corncribref07_Stamp.f a0_2).bind fun t183 => (if t183 = true then (if a0_3 < 0 then (corncribref08_Check.j0 k true a0_0 a0_1 a0_2 a0_3 a0_4 a0_5 a0_6 l0_7 l0_8) else (corncribref08_Check.j0 k (decide (a0_3 ≥ 16)) a0_0 a0_1 a0_2 a0_3 a0_4 a0_5 a0_6 l0_7 l0_8)) else (corncribref08_Check.j0 k true a0_0 a0_1 a0_2 a0_3 a0_4 a0_5 a0_6 l0_7 l0_8))) else ((corncribref07_Txn.f a0_1).bind fun t184 => (if t184 = true then ((corncribref07_Stamp.f a0_2).bind fun t185 => (if t185 = true then (if a0_3 < 0 then (corncribref08_Check.j0 k true a0_0 a0_1 a0_2 a0_3 a0_4 a0_5 a0_6 l0_7 l0_8) else (corncribref08_Check.j0 k (decide (a0_3 ≥ 16)) a0_0 a0_1 a0_2 a0_3 a0_4 a0_5 a0_6 l0_7 l0_8)) else (corncribref08_Check.j0 k true a0_0 a0_1 a0_2 a0_3 a0_4 a0_5 a0_6 l0_7 l0_8))) else (corncribref08_Check.j0 k true a0_0 a0_1 a0_2 a0_3 a0_4 a0_5 a0_6 l0_7 l0_8)))
set_option maxHeartbeats 8000000 in
set_option maxRecDepth 100000 in
theorem corncribref08_Check.callsA (k : Nat) (a0_0 : Int) (a0_1 : Int) (a0_2 : Int) (a0_3 : Int) (a0_4 : ByteArray) (a0_5 : ByteArray) (a0_6 : Bool) (A0_7 : Option Addr) (c0_7 : Nat) (l0_7 : List ByteArray) (A0_8 : Option Addr) (c0_8 : Nat) (l0_8 : List (S50)) (r : Int) (w : World) (hr0_7 : Kd.C Kd.string w A0_7 l0_7.length l0_7) (hc0_7 : l0_7.length ≤ c0_7) (hr0_8 : Kd.C k50 w A0_8 l0_8.length l0_8) (hc0_8 : l0_8.length ≤ c0_8) (h : corncribref08_Check.f k a0_0 a0_1 a0_2 a0_3 a0_4 a0_5 a0_6 l0_7 l0_8 = some r) (hk_ : a0_0 = 1 ∨ a0_0 = 2 ∨ a0_0 = 3) :
  Calls Try.prog 12 #[.agg #[.int .i64 a0_0, .int .i64 a0_1, .int .i64 a0_2, .int .i64 a0_3, .string a0_4, .string a0_5, .bool a0_6, .slice A0_7 l0_7.length c0_7, .slice A0_8 l0_8.length c0_8]] w fun e w' => e = .returned (.int .i64 r) ∧ Below w.heap.size w w' := by
 have HK_ := Aside0.mk hk_
 clear hk_
 have hu25 := Try.underlying25
 have HR0_7 := Aside0.mk hr0_7
 have HC0_7 := Aside0.mk hc0_7
 clear hr0_7 hc0_7
 have HR0_8 := Aside0.mk hr0_8
 have HC0_8 := Aside0.mk hc0_8
 clear hr0_8 hc0_8
 have HB := Aside0.mk (Below.refl w.heap.size w)
 have H : (if a0_1 = 0 then ((corncribref07_Stamp.f a0_2).bind fun t183 => (if t183 = true then (if a0_3 < 0 then (corncribref08_Check.j0 k true a0_0 a0_1 a0_2 a0_3 a0_4 a0_5 a0_6 l0_7 l0_8) else (corncribref08_Check.j0 k (decide (a0_3 ≥ 16)) a0_0 a0_1 a0_2 a0_3 a0_4 a0_5 a0_6 l0_7 l0_8)) else (corncribref08_Check.j0 k true a0_0 a0_1 a0_2 a0_3 a0_4 a0_5 a0_6 l0_7 l0_8))) else ((corncribref07_Txn.f a0_1).bind fun t184 => (if t184 = true then ((corncribref07_Stamp.f a0_2).bind fun t185 => (if t185 = true then (if a0_3 < 0 then (corncribref08_Check.j0 k true a0_0 a0_1 a0_2 a0_3 a0_4 a0_5 a0_6 l0_7 l0_8) else (corncribref08_Check.j0 k (decide (a0_3 ≥ 16)) a0_0 a0_1 a0_2 a0_3 a0_4 a0_5 a0_6 l0_7 l0_8)) else (corncribref08_Check.j0 k true a0_0 a0_1 a0_2 a0_3 a0_4 a0_5 a0_6 l0_7 l0_8))) else (corncribref08_Check.j0 k true a0_0 a0_1 a0_2 a0_3 a0_4 a0_5 a0_6 l0_7 l0_8)))) = some r := h
 clear h
 have HC2 := Aside0.mk H
 clear H
 go_enter Try.func12, Try.ntmps12
 go_upto_region 1 with (first | ((with_reducible refine gate_dst (N := 1) rfl ?_); (try (refine gate_guard (by rfl) ?_; dsimp only)); refine box_event ?hg (N := 1) ?hd (cs := #[.int .i64 a0_0, .int .i64 a0_1, .int .i64 a0_2, .int .i64 a0_3, .string a0_4, .string a0_5, .bool a0_6, .slice A0_7 l0_7.length c0_7, .slice A0_8 l0_8.length c0_8]) (t := 25) ?hr ?_; (case hd => rfl); (case hg => rfl); (case hr => first | (go_simp; done) | (go_simp; rfl)); intro gb182 hg w3 hbox hb; have n0_ := Aside0.mk (below_step (bel_ HB.out) hb); have n1_ := Aside0.mk (hbox); have n2_ := Aside0.mk (bz_ hg (bel_ HB.out)); have n3_ := Aside0.mk (bz_ hg (bel_ HB.out)); clear HB; have HB := n0_; have BK182 := n1_; have GW182 := n2_; have GE182 := n3_; clear n0_ n1_ n2_ n3_; clear hb hbox hg))
 (try simp only [Act.put, s1_, s2_, s3_])
 go_cut [31] (fun v31 wc => ∃ (kq : Nat) (x31_1 : Bool), v31 = .bool x31_1 ∧ Aside0 (corncribref08_Check.j0 kq x31_1 a0_0 a0_1 a0_2 a0_3 a0_4 a0_5 a0_6 l0_7 l0_8 = some r) ∧ Aside0 (kq ≤ k) ∧ Aside0 (wc.heap[gb182]? = some (.cells #[.int .i64 a0_0, .int .i64 a0_1, .int .i64 a0_2, .int .i64 a0_3, .string a0_4, .string a0_5, .bool a0_6, (.slice A0_7 l0_7.length c0_7), (.slice A0_8 l0_8.length c0_8)] 25 (0, 0))) ∧ Aside0 (Below w.heap.size w wc))
 case first =>
  have H := HC2.out
  clear HC2
  by_cases c4 : a0_1 = 0
  ·rw [if_pos c4] at H
   have c4b0 : (a0_1 == 0) = true := beq_iff_eq.mpr c4
   have c4b1 : (a0_1 != 0) = false := bne_eq_false_iff_eq.mpr c4
   clear c4
   (first | rw [c4b0] | (simp only [i64_w, i32_w]; rw [c4b0]) | skip)
   replace H := Option.bind_eq_some_iff.mp H
   obtain ⟨t183, A50, H⟩ := H
   try dsimp only at H
   have A5 := Aside0.mk A50
   clear A50
   by_cases c6 : t183 = true
   ·subst c6
    have H1 : (if a0_3 < 0 then (corncribref08_Check.j0 k true a0_0 a0_1 a0_2 a0_3 a0_4 a0_5 a0_6 l0_7 l0_8) else (corncribref08_Check.j0 k (decide (a0_3 ≥ 16)) a0_0 a0_1 a0_2 a0_3 a0_4 a0_5 a0_6 l0_7 l0_8)) = some r := by rw [if_pos rfl] at H; exact H
    clear H
    have H := H1
    clear H1
    by_cases c7 : a0_3 < 0
    ·rw [if_pos c7] at H
     have c7b0 : decide (a0_3 < 0) = true := decide_eq_true c7
     clear c7
     have H' := Aside0.mk H
     clear H
     obtain ⟨hcz8_0, hfz8_0, hcz8_1, hfz8_1, hcz8_2, hfz8_2, hcz8_3, hfz8_3, hcz8_4, hfz8_4, hcz8_5, hfz8_5, hcz8_6, hfz8_6, hcz8_7, hfz8_7, hcz8_8, hfz8_8⟩ := cfz9 BK182.out
     go_wp2_with (first | (go_at_call 27; (with_reducible refine (corncribref07_Stamp.calls a0_2 true _ A5.out).mono ?_); rintro e w' ⟨rfl, ⟨nd, rfl⟩⟩))
     go_meet
     case rel => exact ⟨_, (true), (by first | rfl | (simp; done) | (simp [*]; done) | (simp [bne_nil_]; done)), H', ⟨by first | omega | exact Nat.le_refl _⟩, ⟨peel_ BK182.out⟩, ⟨bel_ HB.out⟩⟩
    ·rw [if_neg c7] at H
     have c7b0 : decide (a0_3 < 0) = false := decide_eq_false c7
     clear c7
     have H' := Aside0.mk H
     clear H
     obtain ⟨hcz9_0, hfz9_0, hcz9_1, hfz9_1, hcz9_2, hfz9_2, hcz9_3, hfz9_3, hcz9_4, hfz9_4, hcz9_5, hfz9_5, hcz9_6, hfz9_6, hcz9_7, hfz9_7, hcz9_8, hfz9_8⟩ := cfz9 BK182.out
     go_wp2_with (first | (go_at_call 27; (with_reducible refine (corncribref07_Stamp.calls a0_2 true _ A5.out).mono ?_); rintro e w' ⟨rfl, ⟨nd, rfl⟩⟩))
     go_meet
     case rel => exact ⟨_, (decide (a0_3 ≥ 16)), (by first | rfl | (simp; done) | (simp [*]; done) | (simp [bne_nil_]; done)), H', ⟨by first | omega | exact Nat.le_refl _⟩, ⟨peel_ BK182.out⟩, ⟨bel_ HB.out⟩⟩
   ·replace c6 := Bool.eq_false_iff.mpr c6
    subst c6
    have H1 : (corncribref08_Check.j0 k true a0_0 a0_1 a0_2 a0_3 a0_4 a0_5 a0_6 l0_7 l0_8) = some r := by rw [if_neg (show ¬ (false = true) by decide)] at H; exact H
    clear H
    have H := H1
    clear H1
    have H' := Aside0.mk H
    clear H
    obtain ⟨hcz10_0, hfz10_0, hcz10_1, hfz10_1, hcz10_2, hfz10_2, hcz10_3, hfz10_3, hcz10_4, hfz10_4, hcz10_5, hfz10_5, hcz10_6, hfz10_6, hcz10_7, hfz10_7, hcz10_8, hfz10_8⟩ := cfz9 BK182.out
    go_wp2_with (first | (go_at_call 27; (with_reducible refine (corncribref07_Stamp.calls a0_2 false _ A5.out).mono ?_); rintro e w' ⟨rfl, ⟨nd, rfl⟩⟩))
    go_meet
    case rel => exact ⟨_, (true), (by first | rfl | (simp; done) | (simp [*]; done) | (simp [bne_nil_]; done)), H', ⟨by first | omega | exact Nat.le_refl _⟩, ⟨peel_ BK182.out⟩, ⟨bel_ HB.out⟩⟩
  ·rw [if_neg c4] at H
   have c4b0 : (a0_1 == 0) = false := beq_eq_false_iff_ne.mpr c4
   have c4b1 : (a0_1 != 0) = true := bne_iff_ne.mpr c4
   (first | rw [c4b0] | (simp only [i64_w, i32_w]; rw [c4b0]) | skip)
   replace H := Option.bind_eq_some_iff.mp H
   obtain ⟨t184, A110, H⟩ := H
   try dsimp only at H
   have A11 := Aside0.mk A110
   clear A110
   by_cases c12 : t184 = true
   ·subst c12
    have H1 : ((corncribref07_Stamp.f a0_2).bind fun t185 => (if t185 = true then (if a0_3 < 0 then (corncribref08_Check.j0 k true a0_0 a0_1 a0_2 a0_3 a0_4 a0_5 a0_6 l0_7 l0_8) else (corncribref08_Check.j0 k (decide (a0_3 ≥ 16)) a0_0 a0_1 a0_2 a0_3 a0_4 a0_5 a0_6 l0_7 l0_8)) else (corncribref08_Check.j0 k true a0_0 a0_1 a0_2 a0_3 a0_4 a0_5 a0_6 l0_7 l0_8))) = some r := by rw [if_pos rfl] at H; exact H
    clear H
    have H := H1
    clear H1
    replace H := Option.bind_eq_some_iff.mp H
    obtain ⟨t185, A130, H⟩ := H
    try dsimp only at H
    have A13 := Aside0.mk A130
    clear A130
    by_cases c14 : t185 = true
    ·subst c14
     have H1 : (if a0_3 < 0 then (corncribref08_Check.j0 k true a0_0 a0_1 a0_2 a0_3 a0_4 a0_5 a0_6 l0_7 l0_8) else (corncribref08_Check.j0 k (decide (a0_3 ≥ 16)) a0_0 a0_1 a0_2 a0_3 a0_4 a0_5 a0_6 l0_7 l0_8)) = some r := by rw [if_pos rfl] at H; exact H
     clear H
     have H := H1
     clear H1
     by_cases c15 : a0_3 < 0
     ·rw [if_pos c15] at H
      have c15b0 : decide (a0_3 < 0) = true := decide_eq_true c15
      clear c15
      have H' := Aside0.mk H
      clear H
      obtain ⟨hcz16_0, hfz16_0, hcz16_1, hfz16_1, hcz16_2, hfz16_2, hcz16_3, hfz16_3, hcz16_4, hfz16_4, hcz16_5, hfz16_5, hcz16_6, hfz16_6, hcz16_7, hfz16_7, hcz16_8, hfz16_8⟩ := cfz9 BK182.out
      go_wp2_with (first | (go_at_call 26; (with_reducible refine (corncribref07_Txn.calls a0_1 true _ A11.out).mono ?_); rintro e w' ⟨rfl, ⟨nd, rfl⟩⟩) | (go_at_call 27; (with_reducible refine (corncribref07_Stamp.calls a0_2 true _ A13.out).mono ?_); rintro e w' ⟨rfl, ⟨nd, rfl⟩⟩))
      go_meet
      case rel => exact ⟨_, (true), (by first | rfl | (simp; done) | (simp [*]; done) | (simp [bne_nil_]; done)), H', ⟨by first | omega | exact Nat.le_refl _⟩, ⟨peel_ BK182.out⟩, ⟨bel_ HB.out⟩⟩
     ·rw [if_neg c15] at H
      have c15b0 : decide (a0_3 < 0) = false := decide_eq_false c15
      clear c15
      have H' := Aside0.mk H
      clear H
      obtain ⟨hcz17_0, hfz17_0, hcz17_1, hfz17_1, hcz17_2, hfz17_2, hcz17_3, hfz17_3, hcz17_4, hfz17_4, hcz17_5, hfz17_5, hcz17_6, hfz17_6, hcz17_7, hfz17_7, hcz17_8, hfz17_8⟩ := cfz9 BK182.out
      go_wp2_with (first | (go_at_call 26; (with_reducible refine (corncribref07_Txn.calls a0_1 true _ A11.out).mono ?_); rintro e w' ⟨rfl, ⟨nd, rfl⟩⟩) | (go_at_call 27; (with_reducible refine (corncribref07_Stamp.calls a0_2 true _ A13.out).mono ?_); rintro e w' ⟨rfl, ⟨nd, rfl⟩⟩))
      go_meet
      case rel => exact ⟨_, (decide (a0_3 ≥ 16)), (by first | rfl | (simp; done) | (simp [*]; done) | (simp [bne_nil_]; done)), H', ⟨by first | omega | exact Nat.le_refl _⟩, ⟨peel_ BK182.out⟩, ⟨bel_ HB.out⟩⟩
    ·replace c14 := Bool.eq_false_iff.mpr c14
     subst c14
     have H1 : (corncribref08_Check.j0 k true a0_0 a0_1 a0_2 a0_3 a0_4 a0_5 a0_6 l0_7 l0_8) = some r := by rw [if_neg (show ¬ (false = true) by decide)] at H; exact H
     clear H
     have H := H1
     clear H1
     have H' := Aside0.mk H
     clear H
     obtain ⟨hcz18_0, hfz18_0, hcz18_1, hfz18_1, hcz18_2, hfz18_2, hcz18_3, hfz18_3, hcz18_4, hfz18_4, hcz18_5, hfz18_5, hcz18_6, hfz18_6, hcz18_7, hfz18_7, hcz18_8, hfz18_8⟩ := cfz9 BK182.out
     go_wp2_with (first | (go_at_call 26; (with_reducible refine (corncribref07_Txn.calls a0_1 true _ A11.out).mono ?_); rintro e w' ⟨rfl, ⟨nd, rfl⟩⟩) | (go_at_call 27; (with_reducible refine (corncribref07_Stamp.calls a0_2 false _ A13.out).mono ?_); rintro e w' ⟨rfl, ⟨nd, rfl⟩⟩))
     go_meet
     case rel => exact ⟨_, (true), (by first | rfl | (simp; done) | (simp [*]; done) | (simp [bne_nil_]; done)), H', ⟨by first | omega | exact Nat.le_refl _⟩, ⟨peel_ BK182.out⟩, ⟨bel_ HB.out⟩⟩
   ·replace c12 := Bool.eq_false_iff.mpr c12
    subst c12
    have H1 : (corncribref08_Check.j0 k true a0_0 a0_1 a0_2 a0_3 a0_4 a0_5 a0_6 l0_7 l0_8) = some r := by rw [if_neg (show ¬ (false = true) by decide)] at H; exact H
    clear H
    have H := H1
    clear H1
    have H' := Aside0.mk H
    clear H
    obtain ⟨hcz19_0, hfz19_0, hcz19_1, hfz19_1, hcz19_2, hfz19_2, hcz19_3, hfz19_3, hcz19_4, hfz19_4, hcz19_5, hfz19_5, hcz19_6, hfz19_6, hcz19_7, hfz19_7, hcz19_8, hfz19_8⟩ := cfz9 BK182.out
    go_wp2_with (first | (go_at_call 26; (with_reducible refine (corncribref07_Txn.calls a0_1 false _ A11.out).mono ?_); rintro e w' ⟨rfl, ⟨nd, rfl⟩⟩))
    go_meet
    case rel => exact ⟨_, (true), (by first | rfl | (simp; done) | (simp [*]; done) | (simp [bne_nil_]; done)), H', ⟨by first | omega | exact Nat.le_refl _⟩, ⟨peel_ BK182.out⟩, ⟨bel_ HB.out⟩⟩
 case rest =>
  clear HC2
  (try clear c1); (try clear p2); (try clear c4); (try clear c4b0); (try clear c4b1); (try clear c6); (try clear c7); (try clear c7b0); (try clear c12); (try clear c14); (try clear c15); (try clear c15b0); (try clear hcz10_0); (try clear hcz10_1); (try clear hcz10_2); (try clear hcz10_3); (try clear hcz10_4); (try clear hcz10_5); (try clear hcz10_6); (try clear hcz10_7); (try clear hcz10_8); (try clear hcz16_0); (try clear hcz16_1); (try clear hcz16_2); (try clear hcz16_3); (try clear hcz16_4); (try clear hcz16_5); (try clear hcz16_6); (try clear hcz16_7); (try clear hcz16_8); (try clear hcz17_0); (try clear hcz17_1); (try clear hcz17_2); (try clear hcz17_3); (try clear hcz17_4); (try clear hcz17_5); (try clear hcz17_6); (try clear hcz17_7); (try clear hcz17_8); (try clear hcz18_0); (try clear hcz18_1); (try clear hcz18_2); (try clear hcz18_3); (try clear hcz18_4); (try clear hcz18_5); (try clear hcz18_6); (try clear hcz18_7); (try clear hcz18_8); (try clear hcz19_0); (try clear hcz19_1); (try clear hcz19_2); (try clear hcz19_3); (try clear hcz19_4); (try clear hcz19_5); (try clear hcz19_6); (try clear hcz19_7); (try clear hcz19_8); (try clear hcz8_0); (try clear hcz8_1); (try clear hcz8_2); (try clear hcz8_3); (try clear hcz8_4); (try clear hcz8_5); (try clear hcz8_6); (try clear hcz8_7); (try clear hcz8_8); (try clear hcz9_0); (try clear hcz9_1); (try clear hcz9_2); (try clear hcz9_3); (try clear hcz9_4); (try clear hcz9_5); (try clear hcz9_6); (try clear hcz9_7); (try clear hcz9_8); (try clear hfz10_0); (try clear hfz10_1); (try clear hfz10_2); (try clear hfz10_3); (try clear hfz10_4); (try clear hfz10_5); (try clear hfz10_6); (try clear hfz10_7); (try clear hfz10_8); (try clear hfz16_0); (try clear hfz16_1); (try clear hfz16_2); (try clear hfz16_3); (try clear hfz16_4); (try clear hfz16_5); (try clear hfz16_6); (try clear hfz16_7); (try clear hfz16_8); (try clear hfz17_0); (try clear hfz17_1); (try clear hfz17_2); (try clear hfz17_3); (try clear hfz17_4); (try clear hfz17_5); (try clear hfz17_6); (try clear hfz17_7); (try clear hfz17_8); (try clear hfz18_0); (try clear hfz18_1); (try clear hfz18_2); (try clear hfz18_3); (try clear hfz18_4); (try clear hfz18_5); (try clear hfz18_6); (try clear hfz18_7); (try clear hfz18_8); (try clear hfz19_0); (try clear hfz19_1); (try clear hfz19_2); (try clear hfz19_3); (try clear hfz19_4); (try clear hfz19_5); (try clear hfz19_6); (try clear hfz19_7); (try clear hfz19_8); (try clear hfz8_0); (try clear hfz8_1); (try clear hfz8_2); (try clear hfz8_3); (try clear hfz8_4); (try clear hfz8_5); (try clear hfz8_6); (try clear hfz8_7); (try clear hfz8_8); (try clear hfz9_0); (try clear hfz9_1); (try clear hfz9_2); (try clear hfz9_3); (try clear hfz9_4); (try clear hfz9_5); (try clear hfz9_6); (try clear hfz9_7); (try clear hfz9_8)
  obtain ⟨kq, x31_1, rfl, HA, HJ1, BK182, HB⟩ := hcut
  cases kq with
  |zero => exact absurd HA.out (by simp [corncribref08_Check.j0])
  |succ kj1 =>
   have H := HA.out
   clear HA
   simp only [corncribref08_Check.j0] at H
   by_cases c20 : x31_1 = true
   ·subst c20
    have H1 : (some 80) = some r := by rw [if_pos rfl] at H; exact H
    clear H
    have H := H1
    clear H1
    obtain rfl := Option.some.inj H
    go_wp2
    go_ret
    exact ⟨by first | rfl | (simp [errW_none, errW_some] <;> rfl) | (simp [*, errW_none, errW_some] <;> rfl), bel_ HB.out⟩
   ·replace c20 := Bool.eq_false_iff.mpr c20
    subst c20
    have H1 : (if (l0_7.length : Int) = 0 then (corncribref08_Check.j1 kj1 ((l0_8.length : Int) == 0) a0_0 a0_1 a0_2 a0_3 a0_4 a0_5 a0_6 l0_7 l0_8) else (corncribref08_Check.j1 kj1 false a0_0 a0_1 a0_2 a0_3 a0_4 a0_5 a0_6 l0_7 l0_8)) = some r := by rw [if_neg (show ¬ (false = true) by decide)] at H; exact H
    clear H
    have H := H1
    clear H1
    have HC21 := Aside0.mk H
    clear H
    go_upto_region 3 with (fail)
    go_cut [3] (fun v3 wc => ∃ (kq : Nat) (x3_20 : Bool), v3 = .bool x3_20 ∧ Aside0 (corncribref08_Check.j1 kq x3_20 a0_0 a0_1 a0_2 a0_3 a0_4 a0_5 a0_6 l0_7 l0_8 = some r) ∧ Aside0 (kq ≤ kj1) ∧ Aside0 (wc.heap[gb182]? = some (.cells #[.int .i64 a0_0, .int .i64 a0_1, .int .i64 a0_2, .int .i64 a0_3, .string a0_4, .string a0_5, .bool a0_6, (.slice A0_7 l0_7.length c0_7), (.slice A0_8 l0_8.length c0_8)] 25 (0, 0))) ∧ Aside0 (Below w.heap.size w wc))
    case first =>
     have H := HC21.out
     clear HC21
     by_cases c22 : (l0_7.length : Int) = 0
     ·rw [if_pos c22] at H
      have c22b0 : ((l0_7.length : Int) == 0) = true := beq_iff_eq.mpr c22
      have c22b1 : ((l0_7.length : Int) != 0) = false := bne_eq_false_iff_eq.mpr c22
      clear c22
      (first | rw [c22b0] | (simp only [i64_w, i32_w]; rw [c22b0]) | skip)
      have H' := Aside0.mk H
      clear H
      obtain ⟨hcz23_0, hfz23_0, hcz23_1, hfz23_1, hcz23_2, hfz23_2, hcz23_3, hfz23_3, hcz23_4, hfz23_4, hcz23_5, hfz23_5, hcz23_6, hfz23_6, hcz23_7, hfz23_7, hcz23_8, hfz23_8⟩ := cfz9 BK182.out
      go_wp2
      go_meet
      case rel => exact ⟨_, (((l0_8.length : Int) == 0)), (by first | rfl | (simp; done) | (simp [*]; done) | (simp [bne_nil_]; done)), H', ⟨by have := HJ1.out; first | omega | exact Nat.le_refl _⟩, ⟨peel_ BK182.out⟩, ⟨bel_ HB.out⟩⟩
     ·rw [if_neg c22] at H
      have c22b0 : ((l0_7.length : Int) == 0) = false := beq_eq_false_iff_ne.mpr c22
      have c22b1 : ((l0_7.length : Int) != 0) = true := bne_iff_ne.mpr c22
      have c22b2 : ¬ (l0_7 = []) := fun h_ => c22 (by rw [h_]; rfl)
      (first | rw [c22b0] | (simp only [i64_w, i32_w]; rw [c22b0]) | skip)
      have H' := Aside0.mk H
      clear H
      obtain ⟨hcz24_0, hfz24_0, hcz24_1, hfz24_1, hcz24_2, hfz24_2, hcz24_3, hfz24_3, hcz24_4, hfz24_4, hcz24_5, hfz24_5, hcz24_6, hfz24_6, hcz24_7, hfz24_7, hcz24_8, hfz24_8⟩ := cfz9 BK182.out
      go_wp2
      go_meet
      case rel => exact ⟨_, (false), (by first | rfl | (simp; done) | (simp [*]; done) | (simp [bne_nil_]; done)), H', ⟨by have := HJ1.out; first | omega | exact Nat.le_refl _⟩, ⟨peel_ BK182.out⟩, ⟨bel_ HB.out⟩⟩
    case rest =>
     clear HC21
     (try clear c1); (try clear c2); (try clear p2); (try clear c4); (try clear c4b0); (try clear c4b1); (try clear c6); (try clear c7); (try clear c7b0); (try clear c12); (try clear c14); (try clear c15); (try clear c15b0); (try clear c20); (try clear c22); (try clear c22b0); (try clear c22b1); (try clear c22b2); (try clear hcz10_0); (try clear hcz10_1); (try clear hcz10_2); (try clear hcz10_3); (try clear hcz10_4); (try clear hcz10_5); (try clear hcz10_6); (try clear hcz10_7); (try clear hcz10_8); (try clear hcz16_0); (try clear hcz16_1); (try clear hcz16_2); (try clear hcz16_3); (try clear hcz16_4); (try clear hcz16_5); (try clear hcz16_6); (try clear hcz16_7); (try clear hcz16_8); (try clear hcz17_0); (try clear hcz17_1); (try clear hcz17_2); (try clear hcz17_3); (try clear hcz17_4); (try clear hcz17_5); (try clear hcz17_6); (try clear hcz17_7); (try clear hcz17_8); (try clear hcz18_0); (try clear hcz18_1); (try clear hcz18_2); (try clear hcz18_3); (try clear hcz18_4); (try clear hcz18_5); (try clear hcz18_6); (try clear hcz18_7); (try clear hcz18_8); (try clear hcz19_0); (try clear hcz19_1); (try clear hcz19_2); (try clear hcz19_3); (try clear hcz19_4); (try clear hcz19_5); (try clear hcz19_6); (try clear hcz19_7); (try clear hcz19_8); (try clear hcz23_0); (try clear hcz23_1); (try clear hcz23_2); (try clear hcz23_3); (try clear hcz23_4); (try clear hcz23_5); (try clear hcz23_6); (try clear hcz23_7); (try clear hcz23_8); (try clear hcz24_0); (try clear hcz24_1); (try clear hcz24_2); (try clear hcz24_3); (try clear hcz24_4); (try clear hcz24_5); (try clear hcz24_6); (try clear hcz24_7); (try clear hcz24_8); (try clear hcz8_0); (try clear hcz8_1); (try clear hcz8_2); (try clear hcz8_3); (try clear hcz8_4); (try clear hcz8_5); (try clear hcz8_6); (try clear hcz8_7); (try clear hcz8_8); (try clear hcz9_0); (try clear hcz9_1); (try clear hcz9_2); (try clear hcz9_3); (try clear hcz9_4); (try clear hcz9_5); (try clear hcz9_6); (try clear hcz9_7); (try clear hcz9_8); (try clear hfz10_0); (try clear hfz10_1); (try clear hfz10_2); (try clear hfz10_3); (try clear hfz10_4); (try clear hfz10_5); (try clear hfz10_6); (try clear hfz10_7); (try clear hfz10_8); (try clear hfz16_0); (try clear hfz16_1); (try clear hfz16_2); (try clear hfz16_3); (try clear hfz16_4); (try clear hfz16_5); (try clear hfz16_6); (try clear hfz16_7); (try clear hfz16_8); (try clear hfz17_0); (try clear hfz17_1); (try clear hfz17_2); (try clear hfz17_3); (try clear hfz17_4); (try clear hfz17_5); (try clear hfz17_6); (try clear hfz17_7); (try clear hfz17_8); (try clear hfz18_0); (try clear hfz18_1); (try clear hfz18_2); (try clear hfz18_3); (try clear hfz18_4); (try clear hfz18_5); (try clear hfz18_6); (try clear hfz18_7); (try clear hfz18_8); (try clear hfz19_0); (try clear hfz19_1); (try clear hfz19_2); (try clear hfz19_3); (try clear hfz19_4); (try clear hfz19_5); (try clear hfz19_6); (try clear hfz19_7); (try clear hfz19_8); (try clear hfz23_0); (try clear hfz23_1); (try clear hfz23_2); (try clear hfz23_3); (try clear hfz23_4); (try clear hfz23_5); (try clear hfz23_6); (try clear hfz23_7); (try clear hfz23_8); (try clear hfz24_0); (try clear hfz24_1); (try clear hfz24_2); (try clear hfz24_3); (try clear hfz24_4); (try clear hfz24_5); (try clear hfz24_6); (try clear hfz24_7); (try clear hfz24_8); (try clear hfz8_0); (try clear hfz8_1); (try clear hfz8_2); (try clear hfz8_3); (try clear hfz8_4); (try clear hfz8_5); (try clear hfz8_6); (try clear hfz8_7); (try clear hfz8_8); (try clear hfz9_0); (try clear hfz9_1); (try clear hfz9_2); (try clear hfz9_3); (try clear hfz9_4); (try clear hfz9_5); (try clear hfz9_6); (try clear hfz9_7); (try clear hfz9_8); (try clear p2)
     obtain ⟨kq, x3_20, rfl, HA, HJ20, BK182, HB⟩ := hcut
     cases kq with
     |zero => exact absurd HA.out (by simp [corncribref08_Check.j1])
     |succ kj20 =>
      have H := HA.out
      clear HA
      simp only [corncribref08_Check.j1] at H
      have HC25 := Aside0.mk H
      clear H
      go_upto_region 4 with (fail)
      go_cut [4] (fun v4 wc => ∃ (kq : Nat) (x4_24 : Bool), v4 = .bool x4_24 ∧ Aside0 (corncribref08_Check.j2 kq x3_20 x4_24 a0_0 a0_1 a0_2 a0_3 a0_4 a0_5 a0_6 l0_7 l0_8 = some r) ∧ Aside0 (kq ≤ kj20) ∧ Aside0 (wc.heap[gb182]? = some (.cells #[.int .i64 a0_0, .int .i64 a0_1, .int .i64 a0_2, .int .i64 a0_3, .string a0_4, .string a0_5, .bool a0_6, (.slice A0_7 l0_7.length c0_7), (.slice A0_8 l0_8.length c0_8)] 25 (0, 0))) ∧ Aside0 (Below w.heap.size w wc))
      case first =>
       have H := HC25.out
       clear HC25
       by_cases c26 : a0_4.toList = ([] : List UInt8)
       ·rw [if_pos c26] at H
        have c26b0 : (a0_4.toList == ([] : List UInt8)) = true := beq_iff_eq.mpr c26
        have c26b1 : (a0_4.toList != ([] : List UInt8)) = false := bne_eq_false_iff_eq.mpr c26
        clear c26
        (first | rw [c26b0] | (simp only [i64_w, i32_w]; rw [c26b0]) | skip)
        by_cases c27 : a0_5.toList = ([] : List UInt8)
        ·rw [if_pos c27] at H
         have c27b0 : (a0_5.toList == ([] : List UInt8)) = true := beq_iff_eq.mpr c27
         have c27b1 : (a0_5.toList != ([] : List UInt8)) = false := bne_eq_false_iff_eq.mpr c27
         clear c27
         have H' := Aside0.mk H
         clear H
         obtain ⟨hcz28_0, hfz28_0, hcz28_1, hfz28_1, hcz28_2, hfz28_2, hcz28_3, hfz28_3, hcz28_4, hfz28_4, hcz28_5, hfz28_5, hcz28_6, hfz28_6, hcz28_7, hfz28_7, hcz28_8, hfz28_8⟩ := cfz9 BK182.out
         go_wp2
         go_meet
         case rel => exact ⟨_, (!a0_6), (by first | rfl | (simp; done) | (simp [*]; done) | (simp [bne_nil_]; done)), H', ⟨by have := HJ1.out; have := HJ20.out; first | omega | exact Nat.le_refl _⟩, ⟨peel_ BK182.out⟩, ⟨bel_ HB.out⟩⟩
        ·rw [if_neg c27] at H
         have c27b0 : (a0_5.toList == ([] : List UInt8)) = false := beq_eq_false_iff_ne.mpr c27
         have c27b1 : (a0_5.toList != ([] : List UInt8)) = true := bne_iff_ne.mpr c27
         have H' := Aside0.mk H
         clear H
         obtain ⟨hcz29_0, hfz29_0, hcz29_1, hfz29_1, hcz29_2, hfz29_2, hcz29_3, hfz29_3, hcz29_4, hfz29_4, hcz29_5, hfz29_5, hcz29_6, hfz29_6, hcz29_7, hfz29_7, hcz29_8, hfz29_8⟩ := cfz9 BK182.out
         go_wp2
         go_meet
         case rel => exact ⟨_, (false), (by first | rfl | (simp; done) | (simp [*]; done) | (simp [bne_nil_]; done)), H', ⟨by have := HJ1.out; have := HJ20.out; first | omega | exact Nat.le_refl _⟩, ⟨peel_ BK182.out⟩, ⟨bel_ HB.out⟩⟩
       ·rw [if_neg c26] at H
        have c26b0 : (a0_4.toList == ([] : List UInt8)) = false := beq_eq_false_iff_ne.mpr c26
        have c26b1 : (a0_4.toList != ([] : List UInt8)) = true := bne_iff_ne.mpr c26
        (first | rw [c26b0] | (simp only [i64_w, i32_w]; rw [c26b0]) | skip)
        have H' := Aside0.mk H
        clear H
        obtain ⟨hcz30_0, hfz30_0, hcz30_1, hfz30_1, hcz30_2, hfz30_2, hcz30_3, hfz30_3, hcz30_4, hfz30_4, hcz30_5, hfz30_5, hcz30_6, hfz30_6, hcz30_7, hfz30_7, hcz30_8, hfz30_8⟩ := cfz9 BK182.out
        go_wp2
        go_meet
        case rel => exact ⟨_, (false), (by first | rfl | (simp; done) | (simp [*]; done) | (simp [bne_nil_]; done)), H', ⟨by have := HJ1.out; have := HJ20.out; first | omega | exact Nat.le_refl _⟩, ⟨peel_ BK182.out⟩, ⟨bel_ HB.out⟩⟩
      case rest =>
       clear HC25
       (try clear c1); (try clear c2); (try clear p2); (try clear c4); (try clear c4b0); (try clear c4b1); (try clear c6); (try clear c7); (try clear c7b0); (try clear c12); (try clear c14); (try clear c15); (try clear c15b0); (try clear c20); (try clear c22); (try clear c22b0); (try clear c22b1); (try clear c22b2); (try clear c26); (try clear c26b0); (try clear c26b1); (try clear c27); (try clear c27b0); (try clear c27b1); (try clear hcz10_0); (try clear hcz10_1); (try clear hcz10_2); (try clear hcz10_3); (try clear hcz10_4); (try clear hcz10_5); (try clear hcz10_6); (try clear hcz10_7); (try clear hcz10_8); (try clear hcz16_0); (try clear hcz16_1); (try clear hcz16_2); (try clear hcz16_3); (try clear hcz16_4); (try clear hcz16_5); (try clear hcz16_6); (try clear hcz16_7); (try clear hcz16_8); (try clear hcz17_0); (try clear hcz17_1); (try clear hcz17_2); (try clear hcz17_3); (try clear hcz17_4); (try clear hcz17_5); (try clear hcz17_6); (try clear hcz17_7); (try clear hcz17_8); (try clear hcz18_0); (try clear hcz18_1); (try clear hcz18_2); (try clear hcz18_3); (try clear hcz18_4); (try clear hcz18_5); (try clear hcz18_6); (try clear hcz18_7); (try clear hcz18_8); (try clear hcz19_0); (try clear hcz19_1); (try clear hcz19_2); (try clear hcz19_3); (try clear hcz19_4); (try clear hcz19_5); (try clear hcz19_6); (try clear hcz19_7); (try clear hcz19_8); (try clear hcz23_0); (try clear hcz23_1); (try clear hcz23_2); (try clear hcz23_3); (try clear hcz23_4); (try clear hcz23_5); (try clear hcz23_6); (try clear hcz23_7); (try clear hcz23_8); (try clear hcz24_0); (try clear hcz24_1); (try clear hcz24_2); (try clear hcz24_3); (try clear hcz24_4); (try clear hcz24_5); (try clear hcz24_6); (try clear hcz24_7); (try clear hcz24_8); (try clear hcz28_0); (try clear hcz28_1); (try clear hcz28_2); (try clear hcz28_3); (try clear hcz28_4); (try clear hcz28_5); (try clear hcz28_6); (try clear hcz28_7); (try clear hcz28_8); (try clear hcz29_0); (try clear hcz29_1); (try clear hcz29_2); (try clear hcz29_3); (try clear hcz29_4); (try clear hcz29_5); (try clear hcz29_6); (try clear hcz29_7); (try clear hcz29_8); (try clear hcz30_0); (try clear hcz30_1); (try clear hcz30_2); (try clear hcz30_3); (try clear hcz30_4); (try clear hcz30_5); (try clear hcz30_6); (try clear hcz30_7); (try clear hcz30_8); (try clear hcz8_0); (try clear hcz8_1); (try clear hcz8_2); (try clear hcz8_3); (try clear hcz8_4); (try clear hcz8_5); (try clear hcz8_6); (try clear hcz8_7); (try clear hcz8_8); (try clear hcz9_0); (try clear hcz9_1); (try clear hcz9_2); (try clear hcz9_3); (try clear hcz9_4); (try clear hcz9_5); (try clear hcz9_6); (try clear hcz9_7); (try clear hcz9_8); (try clear hfz10_0); (try clear hfz10_1); (try clear hfz10_2); (try clear hfz10_3); (try clear hfz10_4); (try clear hfz10_5); (try clear hfz10_6); (try clear hfz10_7); (try clear hfz10_8); (try clear hfz16_0); (try clear hfz16_1); (try clear hfz16_2); (try clear hfz16_3); (try clear hfz16_4); (try clear hfz16_5); (try clear hfz16_6); (try clear hfz16_7); (try clear hfz16_8); (try clear hfz17_0); (try clear hfz17_1); (try clear hfz17_2); (try clear hfz17_3); (try clear hfz17_4); (try clear hfz17_5); (try clear hfz17_6); (try clear hfz17_7); (try clear hfz17_8); (try clear hfz18_0); (try clear hfz18_1); (try clear hfz18_2); (try clear hfz18_3); (try clear hfz18_4); (try clear hfz18_5); (try clear hfz18_6); (try clear hfz18_7); (try clear hfz18_8); (try clear hfz19_0); (try clear hfz19_1); (try clear hfz19_2); (try clear hfz19_3); (try clear hfz19_4); (try clear hfz19_5); (try clear hfz19_6); (try clear hfz19_7); (try clear hfz19_8); (try clear hfz23_0); (try clear hfz23_1); (try clear hfz23_2); (try clear hfz23_3); (try clear hfz23_4); (try clear hfz23_5); (try clear hfz23_6); (try clear hfz23_7); (try clear hfz23_8); (try clear hfz24_0); (try clear hfz24_1); (try clear hfz24_2); (try clear hfz24_3); (try clear hfz24_4); (try clear hfz24_5); (try clear hfz24_6); (try clear hfz24_7); (try clear hfz24_8); (try clear hfz28_0); (try clear hfz28_1); (try clear hfz28_2); (try clear hfz28_3); (try clear hfz28_4); (try clear hfz28_5); (try clear hfz28_6); (try clear hfz28_7); (try clear hfz28_8); (try clear hfz29_0); (try clear hfz29_1); (try clear hfz29_2); (try clear hfz29_3); (try clear hfz29_4); (try clear hfz29_5); (try clear hfz29_6); (try clear hfz29_7); (try clear hfz29_8); (try clear hfz30_0); (try clear hfz30_1); (try clear hfz30_2); (try clear hfz30_3); (try clear hfz30_4); (try clear hfz30_5); (try clear hfz30_6); (try clear hfz30_7); (try clear hfz30_8); (try clear hfz8_0); (try clear hfz8_1); (try clear hfz8_2); (try clear hfz8_3); (try clear hfz8_4); (try clear hfz8_5); (try clear hfz8_6); (try clear hfz8_7); (try clear hfz8_8); (try clear hfz9_0); (try clear hfz9_1); (try clear hfz9_2); (try clear hfz9_3); (try clear hfz9_4); (try clear hfz9_5); (try clear hfz9_6); (try clear hfz9_7); (try clear hfz9_8); (try clear p2)
       obtain ⟨kq, x4_24, rfl, HA, HJ24, BK182, HB⟩ := hcut
       cases kq with
       |zero => exact absurd HA.out (by simp [corncribref08_Check.j2])
       |succ kj24 =>
        have H := HA.out
        clear HA
        simp only [corncribref08_Check.j2] at H
        have HC31 := Aside0.mk H
        clear H
        go_upto_region 5 with (fail)
        go_cut [5] (fun v5 wc => ∃ (kq : Nat) (x5_30 : Bool), v5 = .bool x5_30 ∧ Aside0 (corncribref08_Check.j3 kq x3_20 x4_24 x5_30 a0_0 a0_1 a0_2 a0_3 a0_4 a0_5 a0_6 l0_7 l0_8 = some r) ∧ Aside0 (kq ≤ kj24) ∧ Aside0 (wc.heap[gb182]? = some (.cells #[.int .i64 a0_0, .int .i64 a0_1, .int .i64 a0_2, .int .i64 a0_3, .string a0_4, .string a0_5, .bool a0_6, (.slice A0_7 l0_7.length c0_7), (.slice A0_8 l0_8.length c0_8)] 25 (0, 0))) ∧ Aside0 (Below w.heap.size w wc))
        case first =>
         have H := HC31.out
         clear HC31
         by_cases c32 : x3_20 = true
         ·subst c32
          have H1 : (if x4_24 = true then (corncribref08_Check.j3 kj24 true x4_24 (a0_3 == 0) a0_0 a0_1 a0_2 a0_3 a0_4 a0_5 a0_6 l0_7 l0_8) else (corncribref08_Check.j3 kj24 true x4_24 false a0_0 a0_1 a0_2 a0_3 a0_4 a0_5 a0_6 l0_7 l0_8)) = some r := by rw [if_pos rfl] at H; exact H
          clear H
          have H := H1
          clear H1
          by_cases c33 : x4_24 = true
          ·subst c33
           have H1 : (corncribref08_Check.j3 kj24 true true (a0_3 == 0) a0_0 a0_1 a0_2 a0_3 a0_4 a0_5 a0_6 l0_7 l0_8) = some r := by rw [if_pos rfl] at H; exact H
           clear H
           have H := H1
           clear H1
           have H' := Aside0.mk H
           clear H
           obtain ⟨hcz34_0, hfz34_0, hcz34_1, hfz34_1, hcz34_2, hfz34_2, hcz34_3, hfz34_3, hcz34_4, hfz34_4, hcz34_5, hfz34_5, hcz34_6, hfz34_6, hcz34_7, hfz34_7, hcz34_8, hfz34_8⟩ := cfz9 BK182.out
           go_wp2
           go_meet
           case rel => exact ⟨_, ((a0_3 == 0)), (by first | rfl | (simp; done) | (simp [*]; done) | (simp [bne_nil_]; done)), H', ⟨by have := HJ1.out; have := HJ20.out; have := HJ24.out; first | omega | exact Nat.le_refl _⟩, ⟨peel_ BK182.out⟩, ⟨bel_ HB.out⟩⟩
          ·replace c33 := Bool.eq_false_iff.mpr c33
           subst c33
           have H1 : (corncribref08_Check.j3 kj24 true false false a0_0 a0_1 a0_2 a0_3 a0_4 a0_5 a0_6 l0_7 l0_8) = some r := by rw [if_neg (show ¬ (false = true) by decide)] at H; exact H
           clear H
           have H := H1
           clear H1
           have H' := Aside0.mk H
           clear H
           go_wp2
           go_meet
           case rel => exact ⟨_, (false), (by first | rfl | (simp; done) | (simp [*]; done) | (simp [bne_nil_]; done)), H', ⟨by have := HJ1.out; have := HJ20.out; have := HJ24.out; first | omega | exact Nat.le_refl _⟩, ⟨peel_ BK182.out⟩, ⟨bel_ HB.out⟩⟩
         ·replace c32 := Bool.eq_false_iff.mpr c32
          subst c32
          have H1 : (corncribref08_Check.j3 kj24 false x4_24 false a0_0 a0_1 a0_2 a0_3 a0_4 a0_5 a0_6 l0_7 l0_8) = some r := by rw [if_neg (show ¬ (false = true) by decide)] at H; exact H
          clear H
          have H := H1
          clear H1
          have H' := Aside0.mk H
          clear H
          go_wp2
          go_meet
          case rel => exact ⟨_, (false), (by first | rfl | (simp; done) | (simp [*]; done) | (simp [bne_nil_]; done)), H', ⟨by have := HJ1.out; have := HJ20.out; have := HJ24.out; first | omega | exact Nat.le_refl _⟩, ⟨peel_ BK182.out⟩, ⟨bel_ HB.out⟩⟩
        case rest =>
         clear HC31
         (try clear c1); (try clear c2); (try clear p2); (try clear c3); (try clear c4); (try clear c4b0); (try clear c4b1); (try clear c6); (try clear c7); (try clear c7b0); (try clear c12); (try clear c14); (try clear c15); (try clear c15b0); (try clear c20); (try clear c22); (try clear c22b0); (try clear c22b1); (try clear c22b2); (try clear c26); (try clear c26b0); (try clear c26b1); (try clear c27); (try clear c27b0); (try clear c27b1); (try clear c32); (try clear c33); (try clear hcz10_0); (try clear hcz10_1); (try clear hcz10_2); (try clear hcz10_3); (try clear hcz10_4); (try clear hcz10_5); (try clear hcz10_6); (try clear hcz10_7); (try clear hcz10_8); (try clear hcz16_0); (try clear hcz16_1); (try clear hcz16_2); (try clear hcz16_3); (try clear hcz16_4); (try clear hcz16_5); (try clear hcz16_6); (try clear hcz16_7); (try clear hcz16_8); (try clear hcz17_0); (try clear hcz17_1); (try clear hcz17_2); (try clear hcz17_3); (try clear hcz17_4); (try clear hcz17_5); (try clear hcz17_6); (try clear hcz17_7); (try clear hcz17_8); (try clear hcz18_0); (try clear hcz18_1); (try clear hcz18_2); (try clear hcz18_3); (try clear hcz18_4); (try clear hcz18_5); (try clear hcz18_6); (try clear hcz18_7); (try clear hcz18_8); (try clear hcz19_0); (try clear hcz19_1); (try clear hcz19_2); (try clear hcz19_3); (try clear hcz19_4); (try clear hcz19_5); (try clear hcz19_6); (try clear hcz19_7); (try clear hcz19_8); (try clear hcz23_0); (try clear hcz23_1); (try clear hcz23_2); (try clear hcz23_3); (try clear hcz23_4); (try clear hcz23_5); (try clear hcz23_6); (try clear hcz23_7); (try clear hcz23_8); (try clear hcz24_0); (try clear hcz24_1); (try clear hcz24_2); (try clear hcz24_3); (try clear hcz24_4); (try clear hcz24_5); (try clear hcz24_6); (try clear hcz24_7); (try clear hcz24_8); (try clear hcz28_0); (try clear hcz28_1); (try clear hcz28_2); (try clear hcz28_3); (try clear hcz28_4); (try clear hcz28_5); (try clear hcz28_6); (try clear hcz28_7); (try clear hcz28_8); (try clear hcz29_0); (try clear hcz29_1); (try clear hcz29_2); (try clear hcz29_3); (try clear hcz29_4); (try clear hcz29_5); (try clear hcz29_6); (try clear hcz29_7); (try clear hcz29_8); (try clear hcz30_0); (try clear hcz30_1); (try clear hcz30_2); (try clear hcz30_3); (try clear hcz30_4); (try clear hcz30_5); (try clear hcz30_6); (try clear hcz30_7); (try clear hcz30_8); (try clear hcz34_0); (try clear hcz34_1); (try clear hcz34_2); (try clear hcz34_3); (try clear hcz34_4); (try clear hcz34_5); (try clear hcz34_6); (try clear hcz34_7); (try clear hcz34_8); (try clear hcz8_0); (try clear hcz8_1); (try clear hcz8_2); (try clear hcz8_3); (try clear hcz8_4); (try clear hcz8_5); (try clear hcz8_6); (try clear hcz8_7); (try clear hcz8_8); (try clear hcz9_0); (try clear hcz9_1); (try clear hcz9_2); (try clear hcz9_3); (try clear hcz9_4); (try clear hcz9_5); (try clear hcz9_6); (try clear hcz9_7); (try clear hcz9_8); (try clear hfz10_0); (try clear hfz10_1); (try clear hfz10_2); (try clear hfz10_3); (try clear hfz10_4); (try clear hfz10_5); (try clear hfz10_6); (try clear hfz10_7); (try clear hfz10_8); (try clear hfz16_0); (try clear hfz16_1); (try clear hfz16_2); (try clear hfz16_3); (try clear hfz16_4); (try clear hfz16_5); (try clear hfz16_6); (try clear hfz16_7); (try clear hfz16_8); (try clear hfz17_0); (try clear hfz17_1); (try clear hfz17_2); (try clear hfz17_3); (try clear hfz17_4); (try clear hfz17_5); (try clear hfz17_6); (try clear hfz17_7); (try clear hfz17_8); (try clear hfz18_0); (try clear hfz18_1); (try clear hfz18_2); (try clear hfz18_3); (try clear hfz18_4); (try clear hfz18_5); (try clear hfz18_6); (try clear hfz18_7); (try clear hfz18_8); (try clear hfz19_0); (try clear hfz19_1); (try clear hfz19_2); (try clear hfz19_3); (try clear hfz19_4); (try clear hfz19_5); (try clear hfz19_6); (try clear hfz19_7); (try clear hfz19_8); (try clear hfz23_0); (try clear hfz23_1); (try clear hfz23_2); (try clear hfz23_3); (try clear hfz23_4); (try clear hfz23_5); (try clear hfz23_6); (try clear hfz23_7); (try clear hfz23_8); (try clear hfz24_0); (try clear hfz24_1); (try clear hfz24_2); (try clear hfz24_3); (try clear hfz24_4); (try clear hfz24_5); (try clear hfz24_6); (try clear hfz24_7); (try clear hfz24_8); (try clear hfz28_0); (try clear hfz28_1); (try clear hfz28_2); (try clear hfz28_3); (try clear hfz28_4); (try clear hfz28_5); (try clear hfz28_6); (try clear hfz28_7); (try clear hfz28_8); (try clear hfz29_0); (try clear hfz29_1); (try clear hfz29_2); (try clear hfz29_3); (try clear hfz29_4); (try clear hfz29_5); (try clear hfz29_6); (try clear hfz29_7); (try clear hfz29_8); (try clear hfz30_0); (try clear hfz30_1); (try clear hfz30_2); (try clear hfz30_3); (try clear hfz30_4); (try clear hfz30_5); (try clear hfz30_6); (try clear hfz30_7); (try clear hfz30_8); (try clear hfz34_0); (try clear hfz34_1); (try clear hfz34_2); (try clear hfz34_3); (try clear hfz34_4); (try clear hfz34_5); (try clear hfz34_6); (try clear hfz34_7); (try clear hfz34_8); (try clear hfz8_0); (try clear hfz8_1); (try clear hfz8_2); (try clear hfz8_3); (try clear hfz8_4); (try clear hfz8_5); (try clear hfz8_6); (try clear hfz8_7); (try clear hfz8_8); (try clear hfz9_0); (try clear hfz9_1); (try clear hfz9_2); (try clear hfz9_3); (try clear hfz9_4); (try clear hfz9_5); (try clear hfz9_6); (try clear hfz9_7); (try clear hfz9_8); (try clear p2)
         obtain ⟨kq, x5_30, rfl, HA, HJ30, BK182, HB⟩ := hcut
         cases kq with
         |zero => exact absurd HA.out (by simp [corncribref08_Check.j3])
         |succ kj30 =>
          have H := HA.out
          clear HA
          simp only [corncribref08_Check.j3] at H
          by_cases c35 : a0_0 = 1
          ·rw [if_pos c35] at H
           have c35b0 : (a0_0 == 1) = true := beq_iff_eq.mpr c35
           have c35b1 : (a0_0 != 1) = false := bne_eq_false_iff_eq.mpr c35
           clear c35
           by_cases c36 : x4_24 = true
           ·subst c36
            have H1 : (if a0_1 = 0 then (some 80) else (if (l0_7.length : Int) ≤ 16 then ((corncribref07_Rising.f kj30 l0_7).bind fun t186 => (if t186 = true then ((corncribref07_Writes.f kj30 l0_8).bind fun t187 => (if t187 = true then (some 0) else (some 80))) else (some 80))) else (some 80))) = some r := by rw [if_pos rfl] at H; exact H
            clear H
            have H := H1
            clear H1
            by_cases c37 : a0_1 = 0
            ·rw [if_pos c37] at H
             have c37b0 : (a0_1 == 0) = true := beq_iff_eq.mpr c37
             have c37b1 : (a0_1 != 0) = false := bne_eq_false_iff_eq.mpr c37
             clear c37
             obtain rfl := Option.some.inj H
             obtain ⟨hcz38_0, hfz38_0, hcz38_1, hfz38_1, hcz38_2, hfz38_2, hcz38_3, hfz38_3, hcz38_4, hfz38_4, hcz38_5, hfz38_5, hcz38_6, hfz38_6, hcz38_7, hfz38_7, hcz38_8, hfz38_8⟩ := cfz9 BK182.out
             go_wp2
             go_ret
             exact ⟨by first | rfl | (simp [errW_none, errW_some] <;> rfl) | (simp [*, errW_none, errW_some] <;> rfl), bel_ HB.out⟩
            ·rw [if_neg c37] at H
             have c37b0 : (a0_1 == 0) = false := beq_eq_false_iff_ne.mpr c37
             have c37b1 : (a0_1 != 0) = true := bne_iff_ne.mpr c37
             by_cases c39 : (l0_7.length : Int) ≤ 16
             ·rw [if_pos c39] at H
              have c39b0 : decide ((l0_7.length : Int) ≤ 16) = true := decide_eq_true c39
              have c39b1 : decide (l0_7.length ≤ 16) = true := decide_eq_true (by omega)
              clear c39
              replace H := Option.bind_eq_some_iff.mp H
              obtain ⟨t186, A400, H⟩ := H
              try dsimp only at H
              have A40 := Aside0.mk A400
              clear A400
              by_cases c41 : t186 = true
              ·subst c41
               have H1 : ((corncribref07_Writes.f kj30 l0_8).bind fun t187 => (if t187 = true then (some 0) else (some 80))) = some r := by rw [if_pos rfl] at H; exact H
               clear H
               have H := H1
               clear H1
               replace H := Option.bind_eq_some_iff.mp H
               obtain ⟨t187, A420, H⟩ := H
               try dsimp only at H
               have A42 := Aside0.mk A420
               clear A420
               by_cases c43 : t187 = true
               ·subst c43
                have H1 : (some 0) = some r := by rw [if_pos rfl] at H; exact H
                clear H
                have H := H1
                clear H1
                obtain rfl := Option.some.inj H
                obtain ⟨hcz44_0, hfz44_0, hcz44_1, hfz44_1, hcz44_2, hfz44_2, hcz44_3, hfz44_3, hcz44_4, hfz44_4, hcz44_5, hfz44_5, hcz44_6, hfz44_6, hcz44_7, hfz44_7, hcz44_8, hfz44_8⟩ := cfz9 BK182.out
                go_wp2_with (first | (go_at_call 28; (with_reducible refine (corncribref07_Rising.calls kj30 _ _ l0_7 true _ ?side1 ?side2 A40.out).mono ?_); (case side1 => repeat (first | exact (Kd.C_below HR0_7.out HB.out) | (with_reducible refine Kd.C_alloc ?_ _) | (with_reducible refine Kd.C_drewN ?_ _) | (with_reducible refine Kd.C_drew ?_))); (case side2 => exact HC0_7.out); rintro e w' ⟨rfl, ⟨nd, rfl⟩⟩) | (go_at_call 29; (with_reducible refine (corncribref07_Writes.calls kj30 _ _ l0_8 true _ ?side1 ?side2 A42.out).mono ?_); (case side1 => repeat (first | exact (Kd.C_below HR0_8.out (bel_ HB.out)) | (with_reducible refine Kd.C_alloc ?_ _) | (with_reducible refine Kd.C_drewN ?_ _) | (with_reducible refine Kd.C_drew ?_))); (case side2 => exact HC0_8.out); rintro e w45 ⟨rfl, hb⟩; have n0_ := Aside0.mk (bb_ BK182.out hb); have n1_ := Aside0.mk (below_step (bel_ HB.out) hb); clear BK182; clear HB; have BK182 := n0_; have HB := n1_; clear n0_ n1_; (try clear hb); (try clear hb2); (try clear hk); (try clear hi)))
                go_ret
                exact ⟨by first | rfl | (simp [errW_none, errW_some] <;> rfl) | (simp [*, errW_none, errW_some] <;> rfl), bel_ HB.out⟩
               ·replace c43 := Bool.eq_false_iff.mpr c43
                subst c43
                have H1 : (some 80) = some r := by rw [if_neg (show ¬ (false = true) by decide)] at H; exact H
                clear H
                have H := H1
                clear H1
                obtain rfl := Option.some.inj H
                obtain ⟨hcz46_0, hfz46_0, hcz46_1, hfz46_1, hcz46_2, hfz46_2, hcz46_3, hfz46_3, hcz46_4, hfz46_4, hcz46_5, hfz46_5, hcz46_6, hfz46_6, hcz46_7, hfz46_7, hcz46_8, hfz46_8⟩ := cfz9 BK182.out
                go_wp2_with (first | (go_at_call 28; (with_reducible refine (corncribref07_Rising.calls kj30 _ _ l0_7 true _ ?side1 ?side2 A40.out).mono ?_); (case side1 => repeat (first | exact (Kd.C_below HR0_7.out HB.out) | (with_reducible refine Kd.C_alloc ?_ _) | (with_reducible refine Kd.C_drewN ?_ _) | (with_reducible refine Kd.C_drew ?_))); (case side2 => exact HC0_7.out); rintro e w' ⟨rfl, ⟨nd, rfl⟩⟩) | (go_at_call 29; (with_reducible refine (corncribref07_Writes.calls kj30 _ _ l0_8 false _ ?side1 ?side2 A42.out).mono ?_); (case side1 => repeat (first | exact (Kd.C_below HR0_8.out (bel_ HB.out)) | (with_reducible refine Kd.C_alloc ?_ _) | (with_reducible refine Kd.C_drewN ?_ _) | (with_reducible refine Kd.C_drew ?_))); (case side2 => exact HC0_8.out); rintro e w47 ⟨rfl, hb⟩; have n0_ := Aside0.mk (bb_ BK182.out hb); have n1_ := Aside0.mk (below_step (bel_ HB.out) hb); clear BK182; clear HB; have BK182 := n0_; have HB := n1_; clear n0_ n1_; (try clear hb); (try clear hb2); (try clear hk); (try clear hi)))
                go_ret
                exact ⟨by first | rfl | (simp [errW_none, errW_some] <;> rfl) | (simp [*, errW_none, errW_some] <;> rfl), bel_ HB.out⟩
              ·replace c41 := Bool.eq_false_iff.mpr c41
               subst c41
               have H1 : (some 80) = some r := by rw [if_neg (show ¬ (false = true) by decide)] at H; exact H
               clear H
               have H := H1
               clear H1
               obtain rfl := Option.some.inj H
               obtain ⟨hcz48_0, hfz48_0, hcz48_1, hfz48_1, hcz48_2, hfz48_2, hcz48_3, hfz48_3, hcz48_4, hfz48_4, hcz48_5, hfz48_5, hcz48_6, hfz48_6, hcz48_7, hfz48_7, hcz48_8, hfz48_8⟩ := cfz9 BK182.out
               go_wp2_with (first | (go_at_call 28; (with_reducible refine (corncribref07_Rising.calls kj30 _ _ l0_7 false _ ?side1 ?side2 A40.out).mono ?_); (case side1 => repeat (first | exact (Kd.C_below HR0_7.out HB.out) | (with_reducible refine Kd.C_alloc ?_ _) | (with_reducible refine Kd.C_drewN ?_ _) | (with_reducible refine Kd.C_drew ?_))); (case side2 => exact HC0_7.out); rintro e w' ⟨rfl, ⟨nd, rfl⟩⟩))
               go_ret
               exact ⟨by first | rfl | (simp [errW_none, errW_some] <;> rfl) | (simp [*, errW_none, errW_some] <;> rfl), bel_ HB.out⟩
             ·rw [if_neg c39] at H
              have c39b0 : decide ((l0_7.length : Int) ≤ 16) = false := decide_eq_false c39
              have c39b1 : decide (l0_7.length ≤ 16) = false := decide_eq_false (by omega)
              clear c39
              obtain rfl := Option.some.inj H
              obtain ⟨hcz49_0, hfz49_0, hcz49_1, hfz49_1, hcz49_2, hfz49_2, hcz49_3, hfz49_3, hcz49_4, hfz49_4, hcz49_5, hfz49_5, hcz49_6, hfz49_6, hcz49_7, hfz49_7, hcz49_8, hfz49_8⟩ := cfz9 BK182.out
              go_wp2
              go_ret
              exact ⟨by first | rfl | (simp [errW_none, errW_some] <;> rfl) | (simp [*, errW_none, errW_some] <;> rfl), bel_ HB.out⟩
           ·replace c36 := Bool.eq_false_iff.mpr c36
            subst c36
            have H1 : (some 80) = some r := by rw [if_neg (show ¬ (false = true) by decide)] at H; exact H
            clear H
            have H := H1
            clear H1
            obtain rfl := Option.some.inj H
            obtain ⟨hcz50_0, hfz50_0, hcz50_1, hfz50_1, hcz50_2, hfz50_2, hcz50_3, hfz50_3, hcz50_4, hfz50_4, hcz50_5, hfz50_5, hcz50_6, hfz50_6, hcz50_7, hfz50_7, hcz50_8, hfz50_8⟩ := cfz9 BK182.out
            go_wp2
            go_ret
            exact ⟨by first | rfl | (simp [errW_none, errW_some] <;> rfl) | (simp [*, errW_none, errW_some] <;> rfl), bel_ HB.out⟩
          ·rw [if_neg c35] at H
           have c35b0 : (a0_0 == 1) = false := beq_eq_false_iff_ne.mpr c35
           have c35b1 : (a0_0 != 1) = true := bne_iff_ne.mpr c35
           by_cases c51 : a0_0 = 2
           ·rw [if_pos c51] at H
            have c51b0 : (a0_0 == 2) = true := beq_iff_eq.mpr c51
            have c51b1 : (a0_0 != 2) = false := bne_eq_false_iff_eq.mpr c51
            clear c51
            by_cases c52 : x5_30 = true
            ·subst c52
             have H1 : (if a0_1 = 0 then (some 80) else (some 0)) = some r := by rw [if_pos rfl] at H; exact H
             clear H
             have H := H1
             clear H1
             by_cases c53 : a0_1 = 0
             ·rw [if_pos c53] at H
              have c53b0 : (a0_1 == 0) = true := beq_iff_eq.mpr c53
              have c53b1 : (a0_1 != 0) = false := bne_eq_false_iff_eq.mpr c53
              clear c53
              obtain rfl := Option.some.inj H
              obtain ⟨hcz54_0, hfz54_0, hcz54_1, hfz54_1, hcz54_2, hfz54_2, hcz54_3, hfz54_3, hcz54_4, hfz54_4, hcz54_5, hfz54_5, hcz54_6, hfz54_6, hcz54_7, hfz54_7, hcz54_8, hfz54_8⟩ := cfz9 BK182.out
              go_wp2
              go_ret
              exact ⟨by first | rfl | (simp [errW_none, errW_some] <;> rfl) | (simp [*, errW_none, errW_some] <;> rfl), bel_ HB.out⟩
             ·rw [if_neg c53] at H
              have c53b0 : (a0_1 == 0) = false := beq_eq_false_iff_ne.mpr c53
              have c53b1 : (a0_1 != 0) = true := bne_iff_ne.mpr c53
              obtain rfl := Option.some.inj H
              obtain ⟨hcz55_0, hfz55_0, hcz55_1, hfz55_1, hcz55_2, hfz55_2, hcz55_3, hfz55_3, hcz55_4, hfz55_4, hcz55_5, hfz55_5, hcz55_6, hfz55_6, hcz55_7, hfz55_7, hcz55_8, hfz55_8⟩ := cfz9 BK182.out
              go_wp2
              go_ret
              exact ⟨by first | rfl | (simp [errW_none, errW_some] <;> rfl) | (simp [*, errW_none, errW_some] <;> rfl), bel_ HB.out⟩
            ·replace c52 := Bool.eq_false_iff.mpr c52
             subst c52
             have H1 : (some 80) = some r := by rw [if_neg (show ¬ (false = true) by decide)] at H; exact H
             clear H
             have H := H1
             clear H1
             obtain rfl := Option.some.inj H
             obtain ⟨hcz56_0, hfz56_0, hcz56_1, hfz56_1, hcz56_2, hfz56_2, hcz56_3, hfz56_3, hcz56_4, hfz56_4, hcz56_5, hfz56_5, hcz56_6, hfz56_6, hcz56_7, hfz56_7, hcz56_8, hfz56_8⟩ := cfz9 BK182.out
             go_wp2
             go_ret
             exact ⟨by first | rfl | (simp [errW_none, errW_some] <;> rfl) | (simp [*, errW_none, errW_some] <;> rfl), bel_ HB.out⟩
           ·rw [if_neg c51] at H
            have c51b0 : (a0_0 == 2) = false := beq_eq_false_iff_ne.mpr c51
            have c51b1 : (a0_0 != 2) = true := bne_iff_ne.mpr c51
            by_cases c57 : a0_0 = 3
            ·rw [if_pos c57] at H
             have c57b0 : (a0_0 == 3) = true := beq_iff_eq.mpr c57
             have c57b1 : (a0_0 != 3) = false := bne_eq_false_iff_eq.mpr c57
             clear c57
             by_cases c58 : x3_20 = true
             ·subst c58
              have H1 : (if a0_3 = 0 then (if a0_1 = 0 then (if a0_2 = 0 then (some 80) else ((corncribref07_Key.f a0_4).bind fun t188 => (if t188 = true then (if (a0_5.size : Int) ≤ 2052 then (if a0_6 = true then (if (a0_5.toList = ([] : List UInt8)) then (some 0) else (some 80)) else (some 0)) else (some 80)) else (some 80)))) else (some 80)) else (some 80)) = some r := by rw [if_pos rfl] at H; exact H
              clear H
              have H := H1
              clear H1
              by_cases c59 : a0_3 = 0
              ·rw [if_pos c59] at H
               have c59b0 : (a0_3 == 0) = true := beq_iff_eq.mpr c59
               have c59b1 : (a0_3 != 0) = false := bne_eq_false_iff_eq.mpr c59
               clear c59
               by_cases c60 : a0_1 = 0
               ·rw [if_pos c60] at H
                have c60b0 : (a0_1 == 0) = true := beq_iff_eq.mpr c60
                have c60b1 : (a0_1 != 0) = false := bne_eq_false_iff_eq.mpr c60
                clear c60
                by_cases c61 : a0_2 = 0
                ·rw [if_pos c61] at H
                 have c61b0 : (a0_2 == 0) = true := beq_iff_eq.mpr c61
                 have c61b1 : (a0_2 != 0) = false := bne_eq_false_iff_eq.mpr c61
                 clear c61
                 obtain rfl := Option.some.inj H
                 obtain ⟨hcz62_0, hfz62_0, hcz62_1, hfz62_1, hcz62_2, hfz62_2, hcz62_3, hfz62_3, hcz62_4, hfz62_4, hcz62_5, hfz62_5, hcz62_6, hfz62_6, hcz62_7, hfz62_7, hcz62_8, hfz62_8⟩ := cfz9 BK182.out
                 go_wp2
                 go_ret
                 exact ⟨by first | rfl | (simp [errW_none, errW_some] <;> rfl) | (simp [*, errW_none, errW_some] <;> rfl), bel_ HB.out⟩
                ·rw [if_neg c61] at H
                 have c61b0 : (a0_2 == 0) = false := beq_eq_false_iff_ne.mpr c61
                 have c61b1 : (a0_2 != 0) = true := bne_iff_ne.mpr c61
                 replace H := Option.bind_eq_some_iff.mp H
                 obtain ⟨t188, A630, H⟩ := H
                 try dsimp only at H
                 have A63 := Aside0.mk A630
                 clear A630
                 by_cases c64 : t188 = true
                 ·subst c64
                  have H1 : (if (a0_5.size : Int) ≤ 2052 then (if a0_6 = true then (if (a0_5.toList = ([] : List UInt8)) then (some 0) else (some 80)) else (some 0)) else (some 80)) = some r := by rw [if_pos rfl] at H; exact H
                  clear H
                  have H := H1
                  clear H1
                  by_cases c65 : (a0_5.size : Int) ≤ 2052
                  ·rw [if_pos c65] at H
                   have c65b0 : decide ((a0_5.size : Int) ≤ 2052) = true := decide_eq_true c65
                   have c65b1 : decide (a0_5.size ≤ 2052) = true := decide_eq_true (by omega)
                   clear c65
                   by_cases c66 : a0_6 = true
                   ·subst c66
                    have H1 : (if (a0_5.toList = ([] : List UInt8)) then (some 0) else (some 80)) = some r := by rw [if_pos rfl] at H; exact H
                    clear H
                    have H := H1
                    clear H1
                    by_cases c67 : (a0_5.toList = ([] : List UInt8))
                    ·rw [if_pos c67] at H
                     have c67b0 : (a0_5.toList == ([] : List UInt8)) = true := beq_iff_eq.mpr c67
                     have c67b1 : (a0_5.toList != ([] : List UInt8)) = false := bne_eq_false_iff_eq.mpr c67
                     clear c67
                     obtain rfl := Option.some.inj H
                     obtain ⟨hcz68_0, hfz68_0, hcz68_1, hfz68_1, hcz68_2, hfz68_2, hcz68_3, hfz68_3, hcz68_4, hfz68_4, hcz68_5, hfz68_5, hcz68_6, hfz68_6, hcz68_7, hfz68_7, hcz68_8, hfz68_8⟩ := cfz9 BK182.out
                     go_wp2_with (first | (go_at_call 30; (with_reducible refine (corncribref07_Key.calls a0_4 true _ A63.out).mono ?_); rintro e w' ⟨rfl, ⟨nd, rfl⟩⟩))
                     go_ret
                     exact ⟨by first | rfl | (simp [errW_none, errW_some] <;> rfl) | (simp [*, errW_none, errW_some] <;> rfl), bel_ HB.out⟩
                    ·rw [if_neg c67] at H
                     have c67b0 : (a0_5.toList == ([] : List UInt8)) = false := beq_eq_false_iff_ne.mpr c67
                     have c67b1 : (a0_5.toList != ([] : List UInt8)) = true := bne_iff_ne.mpr c67
                     obtain rfl := Option.some.inj H
                     obtain ⟨hcz69_0, hfz69_0, hcz69_1, hfz69_1, hcz69_2, hfz69_2, hcz69_3, hfz69_3, hcz69_4, hfz69_4, hcz69_5, hfz69_5, hcz69_6, hfz69_6, hcz69_7, hfz69_7, hcz69_8, hfz69_8⟩ := cfz9 BK182.out
                     go_wp2_with (first | (go_at_call 30; (with_reducible refine (corncribref07_Key.calls a0_4 true _ A63.out).mono ?_); rintro e w' ⟨rfl, ⟨nd, rfl⟩⟩))
                     go_ret
                     exact ⟨by first | rfl | (simp [errW_none, errW_some] <;> rfl) | (simp [*, errW_none, errW_some] <;> rfl), bel_ HB.out⟩
                   ·replace c66 := Bool.eq_false_iff.mpr c66
                    subst c66
                    have H1 : (some 0) = some r := by rw [if_neg (show ¬ (false = true) by decide)] at H; exact H
                    clear H
                    have H := H1
                    clear H1
                    obtain rfl := Option.some.inj H
                    obtain ⟨hcz70_0, hfz70_0, hcz70_1, hfz70_1, hcz70_2, hfz70_2, hcz70_3, hfz70_3, hcz70_4, hfz70_4, hcz70_5, hfz70_5, hcz70_6, hfz70_6, hcz70_7, hfz70_7, hcz70_8, hfz70_8⟩ := cfz9 BK182.out
                    go_wp2_with (first | (go_at_call 30; (with_reducible refine (corncribref07_Key.calls a0_4 true _ A63.out).mono ?_); rintro e w' ⟨rfl, ⟨nd, rfl⟩⟩))
                    go_ret
                    exact ⟨by first | rfl | (simp [errW_none, errW_some] <;> rfl) | (simp [*, errW_none, errW_some] <;> rfl), bel_ HB.out⟩
                  ·rw [if_neg c65] at H
                   have c65b0 : decide ((a0_5.size : Int) ≤ 2052) = false := decide_eq_false c65
                   have c65b1 : decide (a0_5.size ≤ 2052) = false := decide_eq_false (by omega)
                   clear c65
                   obtain rfl := Option.some.inj H
                   obtain ⟨hcz71_0, hfz71_0, hcz71_1, hfz71_1, hcz71_2, hfz71_2, hcz71_3, hfz71_3, hcz71_4, hfz71_4, hcz71_5, hfz71_5, hcz71_6, hfz71_6, hcz71_7, hfz71_7, hcz71_8, hfz71_8⟩ := cfz9 BK182.out
                   go_wp2_with (first | (go_at_call 30; (with_reducible refine (corncribref07_Key.calls a0_4 true _ A63.out).mono ?_); rintro e w' ⟨rfl, ⟨nd, rfl⟩⟩))
                   go_ret
                   exact ⟨by first | rfl | (simp [errW_none, errW_some] <;> rfl) | (simp [*, errW_none, errW_some] <;> rfl), bel_ HB.out⟩
                 ·replace c64 := Bool.eq_false_iff.mpr c64
                  subst c64
                  have H1 : (some 80) = some r := by rw [if_neg (show ¬ (false = true) by decide)] at H; exact H
                  clear H
                  have H := H1
                  clear H1
                  obtain rfl := Option.some.inj H
                  obtain ⟨hcz72_0, hfz72_0, hcz72_1, hfz72_1, hcz72_2, hfz72_2, hcz72_3, hfz72_3, hcz72_4, hfz72_4, hcz72_5, hfz72_5, hcz72_6, hfz72_6, hcz72_7, hfz72_7, hcz72_8, hfz72_8⟩ := cfz9 BK182.out
                  go_wp2_with (first | (go_at_call 30; (with_reducible refine (corncribref07_Key.calls a0_4 false _ A63.out).mono ?_); rintro e w' ⟨rfl, ⟨nd, rfl⟩⟩))
                  go_ret
                  exact ⟨by first | rfl | (simp [errW_none, errW_some] <;> rfl) | (simp [*, errW_none, errW_some] <;> rfl), bel_ HB.out⟩
               ·rw [if_neg c60] at H
                have c60b0 : (a0_1 == 0) = false := beq_eq_false_iff_ne.mpr c60
                have c60b1 : (a0_1 != 0) = true := bne_iff_ne.mpr c60
                obtain rfl := Option.some.inj H
                obtain ⟨hcz73_0, hfz73_0, hcz73_1, hfz73_1, hcz73_2, hfz73_2, hcz73_3, hfz73_3, hcz73_4, hfz73_4, hcz73_5, hfz73_5, hcz73_6, hfz73_6, hcz73_7, hfz73_7, hcz73_8, hfz73_8⟩ := cfz9 BK182.out
                go_wp2
                go_ret
                exact ⟨by first | rfl | (simp [errW_none, errW_some] <;> rfl) | (simp [*, errW_none, errW_some] <;> rfl), bel_ HB.out⟩
              ·rw [if_neg c59] at H
               have c59b0 : (a0_3 == 0) = false := beq_eq_false_iff_ne.mpr c59
               have c59b1 : (a0_3 != 0) = true := bne_iff_ne.mpr c59
               obtain rfl := Option.some.inj H
               obtain ⟨hcz74_0, hfz74_0, hcz74_1, hfz74_1, hcz74_2, hfz74_2, hcz74_3, hfz74_3, hcz74_4, hfz74_4, hcz74_5, hfz74_5, hcz74_6, hfz74_6, hcz74_7, hfz74_7, hcz74_8, hfz74_8⟩ := cfz9 BK182.out
               go_wp2
               go_ret
               exact ⟨by first | rfl | (simp [errW_none, errW_some] <;> rfl) | (simp [*, errW_none, errW_some] <;> rfl), bel_ HB.out⟩
             ·replace c58 := Bool.eq_false_iff.mpr c58
              subst c58
              have H1 : (some 80) = some r := by rw [if_neg (show ¬ (false = true) by decide)] at H; exact H
              clear H
              have H := H1
              clear H1
              obtain rfl := Option.some.inj H
              obtain ⟨hcz75_0, hfz75_0, hcz75_1, hfz75_1, hcz75_2, hfz75_2, hcz75_3, hfz75_3, hcz75_4, hfz75_4, hcz75_5, hfz75_5, hcz75_6, hfz75_6, hcz75_7, hfz75_7, hcz75_8, hfz75_8⟩ := cfz9 BK182.out
              go_wp2
              go_ret
              exact ⟨by first | rfl | (simp [errW_none, errW_some] <;> rfl) | (simp [*, errW_none, errW_some] <;> rfl), bel_ HB.out⟩
            ·rw [if_neg c57] at H
             have c57b0 : (a0_0 == 3) = false := beq_eq_false_iff_ne.mpr c57
             have c57b1 : (a0_0 != 3) = true := bne_iff_ne.mpr c57
             exact absurd HK_.out (by omega)
set_option maxHeartbeats 8000000 in
set_option maxRecDepth 100000 in
theorem corncribref08_Check.callsB (k : Nat) (a0_0 : Int) (a0_1 : Int) (a0_2 : Int) (a0_3 : Int) (a0_4 : ByteArray) (a0_5 : ByteArray) (a0_6 : Bool) (A0_7 : Option Addr) (c0_7 : Nat) (l0_7 : List ByteArray) (A0_8 : Option Addr) (c0_8 : Nat) (l0_8 : List (S50)) (r : Int) (w : World) (hr0_7 : Kd.C Kd.string w A0_7 l0_7.length l0_7) (hc0_7 : l0_7.length ≤ c0_7) (hr0_8 : Kd.C k50 w A0_8 l0_8.length l0_8) (hc0_8 : l0_8.length ≤ c0_8) (h : corncribref08_Check.f k a0_0 a0_1 a0_2 a0_3 a0_4 a0_5 a0_6 l0_7 l0_8 = some r) (hk_ : ¬ (a0_0 = 1 ∨ a0_0 = 2 ∨ a0_0 = 3)) :
  Calls Try.prog 12 #[.agg #[.int .i64 a0_0, .int .i64 a0_1, .int .i64 a0_2, .int .i64 a0_3, .string a0_4, .string a0_5, .bool a0_6, .slice A0_7 l0_7.length c0_7, .slice A0_8 l0_8.length c0_8]] w fun e w' => e = .returned (.int .i64 r) ∧ Below w.heap.size w w' := by
 have HK_ := Aside0.mk hk_
 clear hk_
 have hu25 := Try.underlying25
 have HR0_7 := Aside0.mk hr0_7
 have HC0_7 := Aside0.mk hc0_7
 clear hr0_7 hc0_7
 have HR0_8 := Aside0.mk hr0_8
 have HC0_8 := Aside0.mk hc0_8
 clear hr0_8 hc0_8
 have HB := Aside0.mk (Below.refl w.heap.size w)
 have H : (if a0_1 = 0 then ((corncribref07_Stamp.f a0_2).bind fun t183 => (if t183 = true then (if a0_3 < 0 then (corncribref08_Check.j0 k true a0_0 a0_1 a0_2 a0_3 a0_4 a0_5 a0_6 l0_7 l0_8) else (corncribref08_Check.j0 k (decide (a0_3 ≥ 16)) a0_0 a0_1 a0_2 a0_3 a0_4 a0_5 a0_6 l0_7 l0_8)) else (corncribref08_Check.j0 k true a0_0 a0_1 a0_2 a0_3 a0_4 a0_5 a0_6 l0_7 l0_8))) else ((corncribref07_Txn.f a0_1).bind fun t184 => (if t184 = true then ((corncribref07_Stamp.f a0_2).bind fun t185 => (if t185 = true then (if a0_3 < 0 then (corncribref08_Check.j0 k true a0_0 a0_1 a0_2 a0_3 a0_4 a0_5 a0_6 l0_7 l0_8) else (corncribref08_Check.j0 k (decide (a0_3 ≥ 16)) a0_0 a0_1 a0_2 a0_3 a0_4 a0_5 a0_6 l0_7 l0_8)) else (corncribref08_Check.j0 k true a0_0 a0_1 a0_2 a0_3 a0_4 a0_5 a0_6 l0_7 l0_8))) else (corncribref08_Check.j0 k true a0_0 a0_1 a0_2 a0_3 a0_4 a0_5 a0_6 l0_7 l0_8)))) = some r := h
 clear h
 have HC2 := Aside0.mk H
 clear H
 go_enter Try.func12, Try.ntmps12
 go_upto_region 1 with (first | ((with_reducible refine gate_dst (N := 1) rfl ?_); (try (refine gate_guard (by rfl) ?_; dsimp only)); refine box_event ?hg (N := 1) ?hd (cs := #[.int .i64 a0_0, .int .i64 a0_1, .int .i64 a0_2, .int .i64 a0_3, .string a0_4, .string a0_5, .bool a0_6, .slice A0_7 l0_7.length c0_7, .slice A0_8 l0_8.length c0_8]) (t := 25) ?hr ?_; (case hd => rfl); (case hg => rfl); (case hr => first | (go_simp; done) | (go_simp; rfl)); intro gb182 hg w3 hbox hb; have n0_ := Aside0.mk (below_step (bel_ HB.out) hb); have n1_ := Aside0.mk (hbox); have n2_ := Aside0.mk (bz_ hg (bel_ HB.out)); have n3_ := Aside0.mk (bz_ hg (bel_ HB.out)); clear HB; have HB := n0_; have BK182 := n1_; have GW182 := n2_; have GE182 := n3_; clear n0_ n1_ n2_ n3_; clear hb hbox hg))
 (try simp only [Act.put, s1_, s2_, s3_])
 go_cut [31] (fun v31 wc => ∃ (kq : Nat) (x31_1 : Bool), v31 = .bool x31_1 ∧ Aside0 (corncribref08_Check.j0 kq x31_1 a0_0 a0_1 a0_2 a0_3 a0_4 a0_5 a0_6 l0_7 l0_8 = some r) ∧ Aside0 (kq ≤ k) ∧ Aside0 (wc.heap[gb182]? = some (.cells #[.int .i64 a0_0, .int .i64 a0_1, .int .i64 a0_2, .int .i64 a0_3, .string a0_4, .string a0_5, .bool a0_6, (.slice A0_7 l0_7.length c0_7), (.slice A0_8 l0_8.length c0_8)] 25 (0, 0))) ∧ Aside0 (Below w.heap.size w wc))
 case first =>
  have H := HC2.out
  clear HC2
  by_cases c4 : a0_1 = 0
  ·rw [if_pos c4] at H
   have c4b0 : (a0_1 == 0) = true := beq_iff_eq.mpr c4
   have c4b1 : (a0_1 != 0) = false := bne_eq_false_iff_eq.mpr c4
   clear c4
   (first | rw [c4b0] | (simp only [i64_w, i32_w]; rw [c4b0]) | skip)
   replace H := Option.bind_eq_some_iff.mp H
   obtain ⟨t183, A50, H⟩ := H
   try dsimp only at H
   have A5 := Aside0.mk A50
   clear A50
   by_cases c6 : t183 = true
   ·subst c6
    have H1 : (if a0_3 < 0 then (corncribref08_Check.j0 k true a0_0 a0_1 a0_2 a0_3 a0_4 a0_5 a0_6 l0_7 l0_8) else (corncribref08_Check.j0 k (decide (a0_3 ≥ 16)) a0_0 a0_1 a0_2 a0_3 a0_4 a0_5 a0_6 l0_7 l0_8)) = some r := by rw [if_pos rfl] at H; exact H
    clear H
    have H := H1
    clear H1
    by_cases c7 : a0_3 < 0
    ·rw [if_pos c7] at H
     have c7b0 : decide (a0_3 < 0) = true := decide_eq_true c7
     clear c7
     have H' := Aside0.mk H
     clear H
     obtain ⟨hcz8_0, hfz8_0, hcz8_1, hfz8_1, hcz8_2, hfz8_2, hcz8_3, hfz8_3, hcz8_4, hfz8_4, hcz8_5, hfz8_5, hcz8_6, hfz8_6, hcz8_7, hfz8_7, hcz8_8, hfz8_8⟩ := cfz9 BK182.out
     go_wp2_with (first | (go_at_call 27; (with_reducible refine (corncribref07_Stamp.calls a0_2 true _ A5.out).mono ?_); rintro e w' ⟨rfl, ⟨nd, rfl⟩⟩))
     go_meet
     case rel => exact ⟨_, (true), (by first | rfl | (simp; done) | (simp [*]; done) | (simp [bne_nil_]; done)), H', ⟨by first | omega | exact Nat.le_refl _⟩, ⟨peel_ BK182.out⟩, ⟨bel_ HB.out⟩⟩
    ·rw [if_neg c7] at H
     have c7b0 : decide (a0_3 < 0) = false := decide_eq_false c7
     clear c7
     have H' := Aside0.mk H
     clear H
     obtain ⟨hcz9_0, hfz9_0, hcz9_1, hfz9_1, hcz9_2, hfz9_2, hcz9_3, hfz9_3, hcz9_4, hfz9_4, hcz9_5, hfz9_5, hcz9_6, hfz9_6, hcz9_7, hfz9_7, hcz9_8, hfz9_8⟩ := cfz9 BK182.out
     go_wp2_with (first | (go_at_call 27; (with_reducible refine (corncribref07_Stamp.calls a0_2 true _ A5.out).mono ?_); rintro e w' ⟨rfl, ⟨nd, rfl⟩⟩))
     go_meet
     case rel => exact ⟨_, (decide (a0_3 ≥ 16)), (by first | rfl | (simp; done) | (simp [*]; done) | (simp [bne_nil_]; done)), H', ⟨by first | omega | exact Nat.le_refl _⟩, ⟨peel_ BK182.out⟩, ⟨bel_ HB.out⟩⟩
   ·replace c6 := Bool.eq_false_iff.mpr c6
    subst c6
    have H1 : (corncribref08_Check.j0 k true a0_0 a0_1 a0_2 a0_3 a0_4 a0_5 a0_6 l0_7 l0_8) = some r := by rw [if_neg (show ¬ (false = true) by decide)] at H; exact H
    clear H
    have H := H1
    clear H1
    have H' := Aside0.mk H
    clear H
    obtain ⟨hcz10_0, hfz10_0, hcz10_1, hfz10_1, hcz10_2, hfz10_2, hcz10_3, hfz10_3, hcz10_4, hfz10_4, hcz10_5, hfz10_5, hcz10_6, hfz10_6, hcz10_7, hfz10_7, hcz10_8, hfz10_8⟩ := cfz9 BK182.out
    go_wp2_with (first | (go_at_call 27; (with_reducible refine (corncribref07_Stamp.calls a0_2 false _ A5.out).mono ?_); rintro e w' ⟨rfl, ⟨nd, rfl⟩⟩))
    go_meet
    case rel => exact ⟨_, (true), (by first | rfl | (simp; done) | (simp [*]; done) | (simp [bne_nil_]; done)), H', ⟨by first | omega | exact Nat.le_refl _⟩, ⟨peel_ BK182.out⟩, ⟨bel_ HB.out⟩⟩
  ·rw [if_neg c4] at H
   have c4b0 : (a0_1 == 0) = false := beq_eq_false_iff_ne.mpr c4
   have c4b1 : (a0_1 != 0) = true := bne_iff_ne.mpr c4
   (first | rw [c4b0] | (simp only [i64_w, i32_w]; rw [c4b0]) | skip)
   replace H := Option.bind_eq_some_iff.mp H
   obtain ⟨t184, A110, H⟩ := H
   try dsimp only at H
   have A11 := Aside0.mk A110
   clear A110
   by_cases c12 : t184 = true
   ·subst c12
    have H1 : ((corncribref07_Stamp.f a0_2).bind fun t185 => (if t185 = true then (if a0_3 < 0 then (corncribref08_Check.j0 k true a0_0 a0_1 a0_2 a0_3 a0_4 a0_5 a0_6 l0_7 l0_8) else (corncribref08_Check.j0 k (decide (a0_3 ≥ 16)) a0_0 a0_1 a0_2 a0_3 a0_4 a0_5 a0_6 l0_7 l0_8)) else (corncribref08_Check.j0 k true a0_0 a0_1 a0_2 a0_3 a0_4 a0_5 a0_6 l0_7 l0_8))) = some r := by rw [if_pos rfl] at H; exact H
    clear H
    have H := H1
    clear H1
    replace H := Option.bind_eq_some_iff.mp H
    obtain ⟨t185, A130, H⟩ := H
    try dsimp only at H
    have A13 := Aside0.mk A130
    clear A130
    by_cases c14 : t185 = true
    ·subst c14
     have H1 : (if a0_3 < 0 then (corncribref08_Check.j0 k true a0_0 a0_1 a0_2 a0_3 a0_4 a0_5 a0_6 l0_7 l0_8) else (corncribref08_Check.j0 k (decide (a0_3 ≥ 16)) a0_0 a0_1 a0_2 a0_3 a0_4 a0_5 a0_6 l0_7 l0_8)) = some r := by rw [if_pos rfl] at H; exact H
     clear H
     have H := H1
     clear H1
     by_cases c15 : a0_3 < 0
     ·rw [if_pos c15] at H
      have c15b0 : decide (a0_3 < 0) = true := decide_eq_true c15
      clear c15
      have H' := Aside0.mk H
      clear H
      obtain ⟨hcz16_0, hfz16_0, hcz16_1, hfz16_1, hcz16_2, hfz16_2, hcz16_3, hfz16_3, hcz16_4, hfz16_4, hcz16_5, hfz16_5, hcz16_6, hfz16_6, hcz16_7, hfz16_7, hcz16_8, hfz16_8⟩ := cfz9 BK182.out
      go_wp2_with (first | (go_at_call 26; (with_reducible refine (corncribref07_Txn.calls a0_1 true _ A11.out).mono ?_); rintro e w' ⟨rfl, ⟨nd, rfl⟩⟩) | (go_at_call 27; (with_reducible refine (corncribref07_Stamp.calls a0_2 true _ A13.out).mono ?_); rintro e w' ⟨rfl, ⟨nd, rfl⟩⟩))
      go_meet
      case rel => exact ⟨_, (true), (by first | rfl | (simp; done) | (simp [*]; done) | (simp [bne_nil_]; done)), H', ⟨by first | omega | exact Nat.le_refl _⟩, ⟨peel_ BK182.out⟩, ⟨bel_ HB.out⟩⟩
     ·rw [if_neg c15] at H
      have c15b0 : decide (a0_3 < 0) = false := decide_eq_false c15
      clear c15
      have H' := Aside0.mk H
      clear H
      obtain ⟨hcz17_0, hfz17_0, hcz17_1, hfz17_1, hcz17_2, hfz17_2, hcz17_3, hfz17_3, hcz17_4, hfz17_4, hcz17_5, hfz17_5, hcz17_6, hfz17_6, hcz17_7, hfz17_7, hcz17_8, hfz17_8⟩ := cfz9 BK182.out
      go_wp2_with (first | (go_at_call 26; (with_reducible refine (corncribref07_Txn.calls a0_1 true _ A11.out).mono ?_); rintro e w' ⟨rfl, ⟨nd, rfl⟩⟩) | (go_at_call 27; (with_reducible refine (corncribref07_Stamp.calls a0_2 true _ A13.out).mono ?_); rintro e w' ⟨rfl, ⟨nd, rfl⟩⟩))
      go_meet
      case rel => exact ⟨_, (decide (a0_3 ≥ 16)), (by first | rfl | (simp; done) | (simp [*]; done) | (simp [bne_nil_]; done)), H', ⟨by first | omega | exact Nat.le_refl _⟩, ⟨peel_ BK182.out⟩, ⟨bel_ HB.out⟩⟩
    ·replace c14 := Bool.eq_false_iff.mpr c14
     subst c14
     have H1 : (corncribref08_Check.j0 k true a0_0 a0_1 a0_2 a0_3 a0_4 a0_5 a0_6 l0_7 l0_8) = some r := by rw [if_neg (show ¬ (false = true) by decide)] at H; exact H
     clear H
     have H := H1
     clear H1
     have H' := Aside0.mk H
     clear H
     obtain ⟨hcz18_0, hfz18_0, hcz18_1, hfz18_1, hcz18_2, hfz18_2, hcz18_3, hfz18_3, hcz18_4, hfz18_4, hcz18_5, hfz18_5, hcz18_6, hfz18_6, hcz18_7, hfz18_7, hcz18_8, hfz18_8⟩ := cfz9 BK182.out
     go_wp2_with (first | (go_at_call 26; (with_reducible refine (corncribref07_Txn.calls a0_1 true _ A11.out).mono ?_); rintro e w' ⟨rfl, ⟨nd, rfl⟩⟩) | (go_at_call 27; (with_reducible refine (corncribref07_Stamp.calls a0_2 false _ A13.out).mono ?_); rintro e w' ⟨rfl, ⟨nd, rfl⟩⟩))
     go_meet
     case rel => exact ⟨_, (true), (by first | rfl | (simp; done) | (simp [*]; done) | (simp [bne_nil_]; done)), H', ⟨by first | omega | exact Nat.le_refl _⟩, ⟨peel_ BK182.out⟩, ⟨bel_ HB.out⟩⟩
   ·replace c12 := Bool.eq_false_iff.mpr c12
    subst c12
    have H1 : (corncribref08_Check.j0 k true a0_0 a0_1 a0_2 a0_3 a0_4 a0_5 a0_6 l0_7 l0_8) = some r := by rw [if_neg (show ¬ (false = true) by decide)] at H; exact H
    clear H
    have H := H1
    clear H1
    have H' := Aside0.mk H
    clear H
    obtain ⟨hcz19_0, hfz19_0, hcz19_1, hfz19_1, hcz19_2, hfz19_2, hcz19_3, hfz19_3, hcz19_4, hfz19_4, hcz19_5, hfz19_5, hcz19_6, hfz19_6, hcz19_7, hfz19_7, hcz19_8, hfz19_8⟩ := cfz9 BK182.out
    go_wp2_with (first | (go_at_call 26; (with_reducible refine (corncribref07_Txn.calls a0_1 false _ A11.out).mono ?_); rintro e w' ⟨rfl, ⟨nd, rfl⟩⟩))
    go_meet
    case rel => exact ⟨_, (true), (by first | rfl | (simp; done) | (simp [*]; done) | (simp [bne_nil_]; done)), H', ⟨by first | omega | exact Nat.le_refl _⟩, ⟨peel_ BK182.out⟩, ⟨bel_ HB.out⟩⟩
 case rest =>
  clear HC2
  (try clear c1); (try clear p2); (try clear c4); (try clear c4b0); (try clear c4b1); (try clear c6); (try clear c7); (try clear c7b0); (try clear c12); (try clear c14); (try clear c15); (try clear c15b0); (try clear hcz10_0); (try clear hcz10_1); (try clear hcz10_2); (try clear hcz10_3); (try clear hcz10_4); (try clear hcz10_5); (try clear hcz10_6); (try clear hcz10_7); (try clear hcz10_8); (try clear hcz16_0); (try clear hcz16_1); (try clear hcz16_2); (try clear hcz16_3); (try clear hcz16_4); (try clear hcz16_5); (try clear hcz16_6); (try clear hcz16_7); (try clear hcz16_8); (try clear hcz17_0); (try clear hcz17_1); (try clear hcz17_2); (try clear hcz17_3); (try clear hcz17_4); (try clear hcz17_5); (try clear hcz17_6); (try clear hcz17_7); (try clear hcz17_8); (try clear hcz18_0); (try clear hcz18_1); (try clear hcz18_2); (try clear hcz18_3); (try clear hcz18_4); (try clear hcz18_5); (try clear hcz18_6); (try clear hcz18_7); (try clear hcz18_8); (try clear hcz19_0); (try clear hcz19_1); (try clear hcz19_2); (try clear hcz19_3); (try clear hcz19_4); (try clear hcz19_5); (try clear hcz19_6); (try clear hcz19_7); (try clear hcz19_8); (try clear hcz8_0); (try clear hcz8_1); (try clear hcz8_2); (try clear hcz8_3); (try clear hcz8_4); (try clear hcz8_5); (try clear hcz8_6); (try clear hcz8_7); (try clear hcz8_8); (try clear hcz9_0); (try clear hcz9_1); (try clear hcz9_2); (try clear hcz9_3); (try clear hcz9_4); (try clear hcz9_5); (try clear hcz9_6); (try clear hcz9_7); (try clear hcz9_8); (try clear hfz10_0); (try clear hfz10_1); (try clear hfz10_2); (try clear hfz10_3); (try clear hfz10_4); (try clear hfz10_5); (try clear hfz10_6); (try clear hfz10_7); (try clear hfz10_8); (try clear hfz16_0); (try clear hfz16_1); (try clear hfz16_2); (try clear hfz16_3); (try clear hfz16_4); (try clear hfz16_5); (try clear hfz16_6); (try clear hfz16_7); (try clear hfz16_8); (try clear hfz17_0); (try clear hfz17_1); (try clear hfz17_2); (try clear hfz17_3); (try clear hfz17_4); (try clear hfz17_5); (try clear hfz17_6); (try clear hfz17_7); (try clear hfz17_8); (try clear hfz18_0); (try clear hfz18_1); (try clear hfz18_2); (try clear hfz18_3); (try clear hfz18_4); (try clear hfz18_5); (try clear hfz18_6); (try clear hfz18_7); (try clear hfz18_8); (try clear hfz19_0); (try clear hfz19_1); (try clear hfz19_2); (try clear hfz19_3); (try clear hfz19_4); (try clear hfz19_5); (try clear hfz19_6); (try clear hfz19_7); (try clear hfz19_8); (try clear hfz8_0); (try clear hfz8_1); (try clear hfz8_2); (try clear hfz8_3); (try clear hfz8_4); (try clear hfz8_5); (try clear hfz8_6); (try clear hfz8_7); (try clear hfz8_8); (try clear hfz9_0); (try clear hfz9_1); (try clear hfz9_2); (try clear hfz9_3); (try clear hfz9_4); (try clear hfz9_5); (try clear hfz9_6); (try clear hfz9_7); (try clear hfz9_8)
  obtain ⟨kq, x31_1, rfl, HA, HJ1, BK182, HB⟩ := hcut
  cases kq with
  |zero => exact absurd HA.out (by simp [corncribref08_Check.j0])
  |succ kj1 =>
   have H := HA.out
   clear HA
   simp only [corncribref08_Check.j0] at H
   by_cases c20 : x31_1 = true
   ·subst c20
    have H1 : (some 80) = some r := by rw [if_pos rfl] at H; exact H
    clear H
    have H := H1
    clear H1
    obtain rfl := Option.some.inj H
    go_wp2
    go_ret
    exact ⟨by first | rfl | (simp [errW_none, errW_some] <;> rfl) | (simp [*, errW_none, errW_some] <;> rfl), bel_ HB.out⟩
   ·replace c20 := Bool.eq_false_iff.mpr c20
    subst c20
    have H1 : (if (l0_7.length : Int) = 0 then (corncribref08_Check.j1 kj1 ((l0_8.length : Int) == 0) a0_0 a0_1 a0_2 a0_3 a0_4 a0_5 a0_6 l0_7 l0_8) else (corncribref08_Check.j1 kj1 false a0_0 a0_1 a0_2 a0_3 a0_4 a0_5 a0_6 l0_7 l0_8)) = some r := by rw [if_neg (show ¬ (false = true) by decide)] at H; exact H
    clear H
    have H := H1
    clear H1
    have HC21 := Aside0.mk H
    clear H
    go_upto_region 3 with (fail)
    go_cut [3] (fun v3 wc => ∃ (kq : Nat) (x3_20 : Bool), v3 = .bool x3_20 ∧ Aside0 (corncribref08_Check.j1 kq x3_20 a0_0 a0_1 a0_2 a0_3 a0_4 a0_5 a0_6 l0_7 l0_8 = some r) ∧ Aside0 (kq ≤ kj1) ∧ Aside0 (wc.heap[gb182]? = some (.cells #[.int .i64 a0_0, .int .i64 a0_1, .int .i64 a0_2, .int .i64 a0_3, .string a0_4, .string a0_5, .bool a0_6, (.slice A0_7 l0_7.length c0_7), (.slice A0_8 l0_8.length c0_8)] 25 (0, 0))) ∧ Aside0 (Below w.heap.size w wc))
    case first =>
     have H := HC21.out
     clear HC21
     by_cases c22 : (l0_7.length : Int) = 0
     ·rw [if_pos c22] at H
      have c22b0 : ((l0_7.length : Int) == 0) = true := beq_iff_eq.mpr c22
      have c22b1 : ((l0_7.length : Int) != 0) = false := bne_eq_false_iff_eq.mpr c22
      clear c22
      (first | rw [c22b0] | (simp only [i64_w, i32_w]; rw [c22b0]) | skip)
      have H' := Aside0.mk H
      clear H
      obtain ⟨hcz23_0, hfz23_0, hcz23_1, hfz23_1, hcz23_2, hfz23_2, hcz23_3, hfz23_3, hcz23_4, hfz23_4, hcz23_5, hfz23_5, hcz23_6, hfz23_6, hcz23_7, hfz23_7, hcz23_8, hfz23_8⟩ := cfz9 BK182.out
      go_wp2
      go_meet
      case rel => exact ⟨_, (((l0_8.length : Int) == 0)), (by first | rfl | (simp; done) | (simp [*]; done) | (simp [bne_nil_]; done)), H', ⟨by have := HJ1.out; first | omega | exact Nat.le_refl _⟩, ⟨peel_ BK182.out⟩, ⟨bel_ HB.out⟩⟩
     ·rw [if_neg c22] at H
      have c22b0 : ((l0_7.length : Int) == 0) = false := beq_eq_false_iff_ne.mpr c22
      have c22b1 : ((l0_7.length : Int) != 0) = true := bne_iff_ne.mpr c22
      have c22b2 : ¬ (l0_7 = []) := fun h_ => c22 (by rw [h_]; rfl)
      (first | rw [c22b0] | (simp only [i64_w, i32_w]; rw [c22b0]) | skip)
      have H' := Aside0.mk H
      clear H
      obtain ⟨hcz24_0, hfz24_0, hcz24_1, hfz24_1, hcz24_2, hfz24_2, hcz24_3, hfz24_3, hcz24_4, hfz24_4, hcz24_5, hfz24_5, hcz24_6, hfz24_6, hcz24_7, hfz24_7, hcz24_8, hfz24_8⟩ := cfz9 BK182.out
      go_wp2
      go_meet
      case rel => exact ⟨_, (false), (by first | rfl | (simp; done) | (simp [*]; done) | (simp [bne_nil_]; done)), H', ⟨by have := HJ1.out; first | omega | exact Nat.le_refl _⟩, ⟨peel_ BK182.out⟩, ⟨bel_ HB.out⟩⟩
    case rest =>
     clear HC21
     (try clear c1); (try clear c2); (try clear p2); (try clear c4); (try clear c4b0); (try clear c4b1); (try clear c6); (try clear c7); (try clear c7b0); (try clear c12); (try clear c14); (try clear c15); (try clear c15b0); (try clear c20); (try clear c22); (try clear c22b0); (try clear c22b1); (try clear c22b2); (try clear hcz10_0); (try clear hcz10_1); (try clear hcz10_2); (try clear hcz10_3); (try clear hcz10_4); (try clear hcz10_5); (try clear hcz10_6); (try clear hcz10_7); (try clear hcz10_8); (try clear hcz16_0); (try clear hcz16_1); (try clear hcz16_2); (try clear hcz16_3); (try clear hcz16_4); (try clear hcz16_5); (try clear hcz16_6); (try clear hcz16_7); (try clear hcz16_8); (try clear hcz17_0); (try clear hcz17_1); (try clear hcz17_2); (try clear hcz17_3); (try clear hcz17_4); (try clear hcz17_5); (try clear hcz17_6); (try clear hcz17_7); (try clear hcz17_8); (try clear hcz18_0); (try clear hcz18_1); (try clear hcz18_2); (try clear hcz18_3); (try clear hcz18_4); (try clear hcz18_5); (try clear hcz18_6); (try clear hcz18_7); (try clear hcz18_8); (try clear hcz19_0); (try clear hcz19_1); (try clear hcz19_2); (try clear hcz19_3); (try clear hcz19_4); (try clear hcz19_5); (try clear hcz19_6); (try clear hcz19_7); (try clear hcz19_8); (try clear hcz23_0); (try clear hcz23_1); (try clear hcz23_2); (try clear hcz23_3); (try clear hcz23_4); (try clear hcz23_5); (try clear hcz23_6); (try clear hcz23_7); (try clear hcz23_8); (try clear hcz24_0); (try clear hcz24_1); (try clear hcz24_2); (try clear hcz24_3); (try clear hcz24_4); (try clear hcz24_5); (try clear hcz24_6); (try clear hcz24_7); (try clear hcz24_8); (try clear hcz8_0); (try clear hcz8_1); (try clear hcz8_2); (try clear hcz8_3); (try clear hcz8_4); (try clear hcz8_5); (try clear hcz8_6); (try clear hcz8_7); (try clear hcz8_8); (try clear hcz9_0); (try clear hcz9_1); (try clear hcz9_2); (try clear hcz9_3); (try clear hcz9_4); (try clear hcz9_5); (try clear hcz9_6); (try clear hcz9_7); (try clear hcz9_8); (try clear hfz10_0); (try clear hfz10_1); (try clear hfz10_2); (try clear hfz10_3); (try clear hfz10_4); (try clear hfz10_5); (try clear hfz10_6); (try clear hfz10_7); (try clear hfz10_8); (try clear hfz16_0); (try clear hfz16_1); (try clear hfz16_2); (try clear hfz16_3); (try clear hfz16_4); (try clear hfz16_5); (try clear hfz16_6); (try clear hfz16_7); (try clear hfz16_8); (try clear hfz17_0); (try clear hfz17_1); (try clear hfz17_2); (try clear hfz17_3); (try clear hfz17_4); (try clear hfz17_5); (try clear hfz17_6); (try clear hfz17_7); (try clear hfz17_8); (try clear hfz18_0); (try clear hfz18_1); (try clear hfz18_2); (try clear hfz18_3); (try clear hfz18_4); (try clear hfz18_5); (try clear hfz18_6); (try clear hfz18_7); (try clear hfz18_8); (try clear hfz19_0); (try clear hfz19_1); (try clear hfz19_2); (try clear hfz19_3); (try clear hfz19_4); (try clear hfz19_5); (try clear hfz19_6); (try clear hfz19_7); (try clear hfz19_8); (try clear hfz23_0); (try clear hfz23_1); (try clear hfz23_2); (try clear hfz23_3); (try clear hfz23_4); (try clear hfz23_5); (try clear hfz23_6); (try clear hfz23_7); (try clear hfz23_8); (try clear hfz24_0); (try clear hfz24_1); (try clear hfz24_2); (try clear hfz24_3); (try clear hfz24_4); (try clear hfz24_5); (try clear hfz24_6); (try clear hfz24_7); (try clear hfz24_8); (try clear hfz8_0); (try clear hfz8_1); (try clear hfz8_2); (try clear hfz8_3); (try clear hfz8_4); (try clear hfz8_5); (try clear hfz8_6); (try clear hfz8_7); (try clear hfz8_8); (try clear hfz9_0); (try clear hfz9_1); (try clear hfz9_2); (try clear hfz9_3); (try clear hfz9_4); (try clear hfz9_5); (try clear hfz9_6); (try clear hfz9_7); (try clear hfz9_8); (try clear p2)
     obtain ⟨kq, x3_20, rfl, HA, HJ20, BK182, HB⟩ := hcut
     cases kq with
     |zero => exact absurd HA.out (by simp [corncribref08_Check.j1])
     |succ kj20 =>
      have H := HA.out
      clear HA
      simp only [corncribref08_Check.j1] at H
      have HC25 := Aside0.mk H
      clear H
      go_upto_region 4 with (fail)
      go_cut [4] (fun v4 wc => ∃ (kq : Nat) (x4_24 : Bool), v4 = .bool x4_24 ∧ Aside0 (corncribref08_Check.j2 kq x3_20 x4_24 a0_0 a0_1 a0_2 a0_3 a0_4 a0_5 a0_6 l0_7 l0_8 = some r) ∧ Aside0 (kq ≤ kj20) ∧ Aside0 (wc.heap[gb182]? = some (.cells #[.int .i64 a0_0, .int .i64 a0_1, .int .i64 a0_2, .int .i64 a0_3, .string a0_4, .string a0_5, .bool a0_6, (.slice A0_7 l0_7.length c0_7), (.slice A0_8 l0_8.length c0_8)] 25 (0, 0))) ∧ Aside0 (Below w.heap.size w wc))
      case first =>
       have H := HC25.out
       clear HC25
       by_cases c26 : a0_4.toList = ([] : List UInt8)
       ·rw [if_pos c26] at H
        have c26b0 : (a0_4.toList == ([] : List UInt8)) = true := beq_iff_eq.mpr c26
        have c26b1 : (a0_4.toList != ([] : List UInt8)) = false := bne_eq_false_iff_eq.mpr c26
        clear c26
        (first | rw [c26b0] | (simp only [i64_w, i32_w]; rw [c26b0]) | skip)
        by_cases c27 : a0_5.toList = ([] : List UInt8)
        ·rw [if_pos c27] at H
         have c27b0 : (a0_5.toList == ([] : List UInt8)) = true := beq_iff_eq.mpr c27
         have c27b1 : (a0_5.toList != ([] : List UInt8)) = false := bne_eq_false_iff_eq.mpr c27
         clear c27
         have H' := Aside0.mk H
         clear H
         obtain ⟨hcz28_0, hfz28_0, hcz28_1, hfz28_1, hcz28_2, hfz28_2, hcz28_3, hfz28_3, hcz28_4, hfz28_4, hcz28_5, hfz28_5, hcz28_6, hfz28_6, hcz28_7, hfz28_7, hcz28_8, hfz28_8⟩ := cfz9 BK182.out
         go_wp2
         go_meet
         case rel => exact ⟨_, (!a0_6), (by first | rfl | (simp; done) | (simp [*]; done) | (simp [bne_nil_]; done)), H', ⟨by have := HJ1.out; have := HJ20.out; first | omega | exact Nat.le_refl _⟩, ⟨peel_ BK182.out⟩, ⟨bel_ HB.out⟩⟩
        ·rw [if_neg c27] at H
         have c27b0 : (a0_5.toList == ([] : List UInt8)) = false := beq_eq_false_iff_ne.mpr c27
         have c27b1 : (a0_5.toList != ([] : List UInt8)) = true := bne_iff_ne.mpr c27
         have H' := Aside0.mk H
         clear H
         obtain ⟨hcz29_0, hfz29_0, hcz29_1, hfz29_1, hcz29_2, hfz29_2, hcz29_3, hfz29_3, hcz29_4, hfz29_4, hcz29_5, hfz29_5, hcz29_6, hfz29_6, hcz29_7, hfz29_7, hcz29_8, hfz29_8⟩ := cfz9 BK182.out
         go_wp2
         go_meet
         case rel => exact ⟨_, (false), (by first | rfl | (simp; done) | (simp [*]; done) | (simp [bne_nil_]; done)), H', ⟨by have := HJ1.out; have := HJ20.out; first | omega | exact Nat.le_refl _⟩, ⟨peel_ BK182.out⟩, ⟨bel_ HB.out⟩⟩
       ·rw [if_neg c26] at H
        have c26b0 : (a0_4.toList == ([] : List UInt8)) = false := beq_eq_false_iff_ne.mpr c26
        have c26b1 : (a0_4.toList != ([] : List UInt8)) = true := bne_iff_ne.mpr c26
        (first | rw [c26b0] | (simp only [i64_w, i32_w]; rw [c26b0]) | skip)
        have H' := Aside0.mk H
        clear H
        obtain ⟨hcz30_0, hfz30_0, hcz30_1, hfz30_1, hcz30_2, hfz30_2, hcz30_3, hfz30_3, hcz30_4, hfz30_4, hcz30_5, hfz30_5, hcz30_6, hfz30_6, hcz30_7, hfz30_7, hcz30_8, hfz30_8⟩ := cfz9 BK182.out
        go_wp2
        go_meet
        case rel => exact ⟨_, (false), (by first | rfl | (simp; done) | (simp [*]; done) | (simp [bne_nil_]; done)), H', ⟨by have := HJ1.out; have := HJ20.out; first | omega | exact Nat.le_refl _⟩, ⟨peel_ BK182.out⟩, ⟨bel_ HB.out⟩⟩
      case rest =>
       clear HC25
       (try clear c1); (try clear c2); (try clear p2); (try clear c4); (try clear c4b0); (try clear c4b1); (try clear c6); (try clear c7); (try clear c7b0); (try clear c12); (try clear c14); (try clear c15); (try clear c15b0); (try clear c20); (try clear c22); (try clear c22b0); (try clear c22b1); (try clear c22b2); (try clear c26); (try clear c26b0); (try clear c26b1); (try clear c27); (try clear c27b0); (try clear c27b1); (try clear hcz10_0); (try clear hcz10_1); (try clear hcz10_2); (try clear hcz10_3); (try clear hcz10_4); (try clear hcz10_5); (try clear hcz10_6); (try clear hcz10_7); (try clear hcz10_8); (try clear hcz16_0); (try clear hcz16_1); (try clear hcz16_2); (try clear hcz16_3); (try clear hcz16_4); (try clear hcz16_5); (try clear hcz16_6); (try clear hcz16_7); (try clear hcz16_8); (try clear hcz17_0); (try clear hcz17_1); (try clear hcz17_2); (try clear hcz17_3); (try clear hcz17_4); (try clear hcz17_5); (try clear hcz17_6); (try clear hcz17_7); (try clear hcz17_8); (try clear hcz18_0); (try clear hcz18_1); (try clear hcz18_2); (try clear hcz18_3); (try clear hcz18_4); (try clear hcz18_5); (try clear hcz18_6); (try clear hcz18_7); (try clear hcz18_8); (try clear hcz19_0); (try clear hcz19_1); (try clear hcz19_2); (try clear hcz19_3); (try clear hcz19_4); (try clear hcz19_5); (try clear hcz19_6); (try clear hcz19_7); (try clear hcz19_8); (try clear hcz23_0); (try clear hcz23_1); (try clear hcz23_2); (try clear hcz23_3); (try clear hcz23_4); (try clear hcz23_5); (try clear hcz23_6); (try clear hcz23_7); (try clear hcz23_8); (try clear hcz24_0); (try clear hcz24_1); (try clear hcz24_2); (try clear hcz24_3); (try clear hcz24_4); (try clear hcz24_5); (try clear hcz24_6); (try clear hcz24_7); (try clear hcz24_8); (try clear hcz28_0); (try clear hcz28_1); (try clear hcz28_2); (try clear hcz28_3); (try clear hcz28_4); (try clear hcz28_5); (try clear hcz28_6); (try clear hcz28_7); (try clear hcz28_8); (try clear hcz29_0); (try clear hcz29_1); (try clear hcz29_2); (try clear hcz29_3); (try clear hcz29_4); (try clear hcz29_5); (try clear hcz29_6); (try clear hcz29_7); (try clear hcz29_8); (try clear hcz30_0); (try clear hcz30_1); (try clear hcz30_2); (try clear hcz30_3); (try clear hcz30_4); (try clear hcz30_5); (try clear hcz30_6); (try clear hcz30_7); (try clear hcz30_8); (try clear hcz8_0); (try clear hcz8_1); (try clear hcz8_2); (try clear hcz8_3); (try clear hcz8_4); (try clear hcz8_5); (try clear hcz8_6); (try clear hcz8_7); (try clear hcz8_8); (try clear hcz9_0); (try clear hcz9_1); (try clear hcz9_2); (try clear hcz9_3); (try clear hcz9_4); (try clear hcz9_5); (try clear hcz9_6); (try clear hcz9_7); (try clear hcz9_8); (try clear hfz10_0); (try clear hfz10_1); (try clear hfz10_2); (try clear hfz10_3); (try clear hfz10_4); (try clear hfz10_5); (try clear hfz10_6); (try clear hfz10_7); (try clear hfz10_8); (try clear hfz16_0); (try clear hfz16_1); (try clear hfz16_2); (try clear hfz16_3); (try clear hfz16_4); (try clear hfz16_5); (try clear hfz16_6); (try clear hfz16_7); (try clear hfz16_8); (try clear hfz17_0); (try clear hfz17_1); (try clear hfz17_2); (try clear hfz17_3); (try clear hfz17_4); (try clear hfz17_5); (try clear hfz17_6); (try clear hfz17_7); (try clear hfz17_8); (try clear hfz18_0); (try clear hfz18_1); (try clear hfz18_2); (try clear hfz18_3); (try clear hfz18_4); (try clear hfz18_5); (try clear hfz18_6); (try clear hfz18_7); (try clear hfz18_8); (try clear hfz19_0); (try clear hfz19_1); (try clear hfz19_2); (try clear hfz19_3); (try clear hfz19_4); (try clear hfz19_5); (try clear hfz19_6); (try clear hfz19_7); (try clear hfz19_8); (try clear hfz23_0); (try clear hfz23_1); (try clear hfz23_2); (try clear hfz23_3); (try clear hfz23_4); (try clear hfz23_5); (try clear hfz23_6); (try clear hfz23_7); (try clear hfz23_8); (try clear hfz24_0); (try clear hfz24_1); (try clear hfz24_2); (try clear hfz24_3); (try clear hfz24_4); (try clear hfz24_5); (try clear hfz24_6); (try clear hfz24_7); (try clear hfz24_8); (try clear hfz28_0); (try clear hfz28_1); (try clear hfz28_2); (try clear hfz28_3); (try clear hfz28_4); (try clear hfz28_5); (try clear hfz28_6); (try clear hfz28_7); (try clear hfz28_8); (try clear hfz29_0); (try clear hfz29_1); (try clear hfz29_2); (try clear hfz29_3); (try clear hfz29_4); (try clear hfz29_5); (try clear hfz29_6); (try clear hfz29_7); (try clear hfz29_8); (try clear hfz30_0); (try clear hfz30_1); (try clear hfz30_2); (try clear hfz30_3); (try clear hfz30_4); (try clear hfz30_5); (try clear hfz30_6); (try clear hfz30_7); (try clear hfz30_8); (try clear hfz8_0); (try clear hfz8_1); (try clear hfz8_2); (try clear hfz8_3); (try clear hfz8_4); (try clear hfz8_5); (try clear hfz8_6); (try clear hfz8_7); (try clear hfz8_8); (try clear hfz9_0); (try clear hfz9_1); (try clear hfz9_2); (try clear hfz9_3); (try clear hfz9_4); (try clear hfz9_5); (try clear hfz9_6); (try clear hfz9_7); (try clear hfz9_8); (try clear p2)
       obtain ⟨kq, x4_24, rfl, HA, HJ24, BK182, HB⟩ := hcut
       cases kq with
       |zero => exact absurd HA.out (by simp [corncribref08_Check.j2])
       |succ kj24 =>
        have H := HA.out
        clear HA
        simp only [corncribref08_Check.j2] at H
        have HC31 := Aside0.mk H
        clear H
        go_upto_region 5 with (fail)
        go_cut [5] (fun v5 wc => ∃ (kq : Nat) (x5_30 : Bool), v5 = .bool x5_30 ∧ Aside0 (corncribref08_Check.j3 kq x3_20 x4_24 x5_30 a0_0 a0_1 a0_2 a0_3 a0_4 a0_5 a0_6 l0_7 l0_8 = some r) ∧ Aside0 (kq ≤ kj24) ∧ Aside0 (wc.heap[gb182]? = some (.cells #[.int .i64 a0_0, .int .i64 a0_1, .int .i64 a0_2, .int .i64 a0_3, .string a0_4, .string a0_5, .bool a0_6, (.slice A0_7 l0_7.length c0_7), (.slice A0_8 l0_8.length c0_8)] 25 (0, 0))) ∧ Aside0 (Below w.heap.size w wc))
        case first =>
         have H := HC31.out
         clear HC31
         by_cases c32 : x3_20 = true
         ·subst c32
          have H1 : (if x4_24 = true then (corncribref08_Check.j3 kj24 true x4_24 (a0_3 == 0) a0_0 a0_1 a0_2 a0_3 a0_4 a0_5 a0_6 l0_7 l0_8) else (corncribref08_Check.j3 kj24 true x4_24 false a0_0 a0_1 a0_2 a0_3 a0_4 a0_5 a0_6 l0_7 l0_8)) = some r := by rw [if_pos rfl] at H; exact H
          clear H
          have H := H1
          clear H1
          by_cases c33 : x4_24 = true
          ·subst c33
           have H1 : (corncribref08_Check.j3 kj24 true true (a0_3 == 0) a0_0 a0_1 a0_2 a0_3 a0_4 a0_5 a0_6 l0_7 l0_8) = some r := by rw [if_pos rfl] at H; exact H
           clear H
           have H := H1
           clear H1
           have H' := Aside0.mk H
           clear H
           obtain ⟨hcz34_0, hfz34_0, hcz34_1, hfz34_1, hcz34_2, hfz34_2, hcz34_3, hfz34_3, hcz34_4, hfz34_4, hcz34_5, hfz34_5, hcz34_6, hfz34_6, hcz34_7, hfz34_7, hcz34_8, hfz34_8⟩ := cfz9 BK182.out
           go_wp2
           go_meet
           case rel => exact ⟨_, ((a0_3 == 0)), (by first | rfl | (simp; done) | (simp [*]; done) | (simp [bne_nil_]; done)), H', ⟨by have := HJ1.out; have := HJ20.out; have := HJ24.out; first | omega | exact Nat.le_refl _⟩, ⟨peel_ BK182.out⟩, ⟨bel_ HB.out⟩⟩
          ·replace c33 := Bool.eq_false_iff.mpr c33
           subst c33
           have H1 : (corncribref08_Check.j3 kj24 true false false a0_0 a0_1 a0_2 a0_3 a0_4 a0_5 a0_6 l0_7 l0_8) = some r := by rw [if_neg (show ¬ (false = true) by decide)] at H; exact H
           clear H
           have H := H1
           clear H1
           have H' := Aside0.mk H
           clear H
           go_wp2
           go_meet
           case rel => exact ⟨_, (false), (by first | rfl | (simp; done) | (simp [*]; done) | (simp [bne_nil_]; done)), H', ⟨by have := HJ1.out; have := HJ20.out; have := HJ24.out; first | omega | exact Nat.le_refl _⟩, ⟨peel_ BK182.out⟩, ⟨bel_ HB.out⟩⟩
         ·replace c32 := Bool.eq_false_iff.mpr c32
          subst c32
          have H1 : (corncribref08_Check.j3 kj24 false x4_24 false a0_0 a0_1 a0_2 a0_3 a0_4 a0_5 a0_6 l0_7 l0_8) = some r := by rw [if_neg (show ¬ (false = true) by decide)] at H; exact H
          clear H
          have H := H1
          clear H1
          have H' := Aside0.mk H
          clear H
          go_wp2
          go_meet
          case rel => exact ⟨_, (false), (by first | rfl | (simp; done) | (simp [*]; done) | (simp [bne_nil_]; done)), H', ⟨by have := HJ1.out; have := HJ20.out; have := HJ24.out; first | omega | exact Nat.le_refl _⟩, ⟨peel_ BK182.out⟩, ⟨bel_ HB.out⟩⟩
        case rest =>
         clear HC31
         (try clear c1); (try clear c2); (try clear p2); (try clear c3); (try clear c4); (try clear c4b0); (try clear c4b1); (try clear c6); (try clear c7); (try clear c7b0); (try clear c12); (try clear c14); (try clear c15); (try clear c15b0); (try clear c20); (try clear c22); (try clear c22b0); (try clear c22b1); (try clear c22b2); (try clear c26); (try clear c26b0); (try clear c26b1); (try clear c27); (try clear c27b0); (try clear c27b1); (try clear c32); (try clear c33); (try clear hcz10_0); (try clear hcz10_1); (try clear hcz10_2); (try clear hcz10_3); (try clear hcz10_4); (try clear hcz10_5); (try clear hcz10_6); (try clear hcz10_7); (try clear hcz10_8); (try clear hcz16_0); (try clear hcz16_1); (try clear hcz16_2); (try clear hcz16_3); (try clear hcz16_4); (try clear hcz16_5); (try clear hcz16_6); (try clear hcz16_7); (try clear hcz16_8); (try clear hcz17_0); (try clear hcz17_1); (try clear hcz17_2); (try clear hcz17_3); (try clear hcz17_4); (try clear hcz17_5); (try clear hcz17_6); (try clear hcz17_7); (try clear hcz17_8); (try clear hcz18_0); (try clear hcz18_1); (try clear hcz18_2); (try clear hcz18_3); (try clear hcz18_4); (try clear hcz18_5); (try clear hcz18_6); (try clear hcz18_7); (try clear hcz18_8); (try clear hcz19_0); (try clear hcz19_1); (try clear hcz19_2); (try clear hcz19_3); (try clear hcz19_4); (try clear hcz19_5); (try clear hcz19_6); (try clear hcz19_7); (try clear hcz19_8); (try clear hcz23_0); (try clear hcz23_1); (try clear hcz23_2); (try clear hcz23_3); (try clear hcz23_4); (try clear hcz23_5); (try clear hcz23_6); (try clear hcz23_7); (try clear hcz23_8); (try clear hcz24_0); (try clear hcz24_1); (try clear hcz24_2); (try clear hcz24_3); (try clear hcz24_4); (try clear hcz24_5); (try clear hcz24_6); (try clear hcz24_7); (try clear hcz24_8); (try clear hcz28_0); (try clear hcz28_1); (try clear hcz28_2); (try clear hcz28_3); (try clear hcz28_4); (try clear hcz28_5); (try clear hcz28_6); (try clear hcz28_7); (try clear hcz28_8); (try clear hcz29_0); (try clear hcz29_1); (try clear hcz29_2); (try clear hcz29_3); (try clear hcz29_4); (try clear hcz29_5); (try clear hcz29_6); (try clear hcz29_7); (try clear hcz29_8); (try clear hcz30_0); (try clear hcz30_1); (try clear hcz30_2); (try clear hcz30_3); (try clear hcz30_4); (try clear hcz30_5); (try clear hcz30_6); (try clear hcz30_7); (try clear hcz30_8); (try clear hcz34_0); (try clear hcz34_1); (try clear hcz34_2); (try clear hcz34_3); (try clear hcz34_4); (try clear hcz34_5); (try clear hcz34_6); (try clear hcz34_7); (try clear hcz34_8); (try clear hcz8_0); (try clear hcz8_1); (try clear hcz8_2); (try clear hcz8_3); (try clear hcz8_4); (try clear hcz8_5); (try clear hcz8_6); (try clear hcz8_7); (try clear hcz8_8); (try clear hcz9_0); (try clear hcz9_1); (try clear hcz9_2); (try clear hcz9_3); (try clear hcz9_4); (try clear hcz9_5); (try clear hcz9_6); (try clear hcz9_7); (try clear hcz9_8); (try clear hfz10_0); (try clear hfz10_1); (try clear hfz10_2); (try clear hfz10_3); (try clear hfz10_4); (try clear hfz10_5); (try clear hfz10_6); (try clear hfz10_7); (try clear hfz10_8); (try clear hfz16_0); (try clear hfz16_1); (try clear hfz16_2); (try clear hfz16_3); (try clear hfz16_4); (try clear hfz16_5); (try clear hfz16_6); (try clear hfz16_7); (try clear hfz16_8); (try clear hfz17_0); (try clear hfz17_1); (try clear hfz17_2); (try clear hfz17_3); (try clear hfz17_4); (try clear hfz17_5); (try clear hfz17_6); (try clear hfz17_7); (try clear hfz17_8); (try clear hfz18_0); (try clear hfz18_1); (try clear hfz18_2); (try clear hfz18_3); (try clear hfz18_4); (try clear hfz18_5); (try clear hfz18_6); (try clear hfz18_7); (try clear hfz18_8); (try clear hfz19_0); (try clear hfz19_1); (try clear hfz19_2); (try clear hfz19_3); (try clear hfz19_4); (try clear hfz19_5); (try clear hfz19_6); (try clear hfz19_7); (try clear hfz19_8); (try clear hfz23_0); (try clear hfz23_1); (try clear hfz23_2); (try clear hfz23_3); (try clear hfz23_4); (try clear hfz23_5); (try clear hfz23_6); (try clear hfz23_7); (try clear hfz23_8); (try clear hfz24_0); (try clear hfz24_1); (try clear hfz24_2); (try clear hfz24_3); (try clear hfz24_4); (try clear hfz24_5); (try clear hfz24_6); (try clear hfz24_7); (try clear hfz24_8); (try clear hfz28_0); (try clear hfz28_1); (try clear hfz28_2); (try clear hfz28_3); (try clear hfz28_4); (try clear hfz28_5); (try clear hfz28_6); (try clear hfz28_7); (try clear hfz28_8); (try clear hfz29_0); (try clear hfz29_1); (try clear hfz29_2); (try clear hfz29_3); (try clear hfz29_4); (try clear hfz29_5); (try clear hfz29_6); (try clear hfz29_7); (try clear hfz29_8); (try clear hfz30_0); (try clear hfz30_1); (try clear hfz30_2); (try clear hfz30_3); (try clear hfz30_4); (try clear hfz30_5); (try clear hfz30_6); (try clear hfz30_7); (try clear hfz30_8); (try clear hfz34_0); (try clear hfz34_1); (try clear hfz34_2); (try clear hfz34_3); (try clear hfz34_4); (try clear hfz34_5); (try clear hfz34_6); (try clear hfz34_7); (try clear hfz34_8); (try clear hfz8_0); (try clear hfz8_1); (try clear hfz8_2); (try clear hfz8_3); (try clear hfz8_4); (try clear hfz8_5); (try clear hfz8_6); (try clear hfz8_7); (try clear hfz8_8); (try clear hfz9_0); (try clear hfz9_1); (try clear hfz9_2); (try clear hfz9_3); (try clear hfz9_4); (try clear hfz9_5); (try clear hfz9_6); (try clear hfz9_7); (try clear hfz9_8); (try clear p2)
         obtain ⟨kq, x5_30, rfl, HA, HJ30, BK182, HB⟩ := hcut
         cases kq with
         |zero => exact absurd HA.out (by simp [corncribref08_Check.j3])
         |succ kj30 =>
          have H := HA.out
          clear HA
          simp only [corncribref08_Check.j3] at H
          by_cases c35 : a0_0 = 1
          ·exact absurd HK_.out (by omega)
          ·rw [if_neg c35] at H
           have c35b0 : (a0_0 == 1) = false := beq_eq_false_iff_ne.mpr c35
           have c35b1 : (a0_0 != 1) = true := bne_iff_ne.mpr c35
           by_cases c51 : a0_0 = 2
           ·exact absurd HK_.out (by omega)
           ·rw [if_neg c51] at H
            have c51b0 : (a0_0 == 2) = false := beq_eq_false_iff_ne.mpr c51
            have c51b1 : (a0_0 != 2) = true := bne_iff_ne.mpr c51
            by_cases c57 : a0_0 = 3
            ·exact absurd HK_.out (by omega)
            ·rw [if_neg c57] at H
             have c57b0 : (a0_0 == 3) = false := beq_eq_false_iff_ne.mpr c57
             have c57b1 : (a0_0 != 3) = true := bne_iff_ne.mpr c57
             by_cases c76 : a0_0 = 4
             ·rw [if_pos c76] at H
              have c76b0 : (a0_0 == 4) = true := beq_iff_eq.mpr c76
              have c76b1 : (a0_0 != 4) = false := bne_eq_false_iff_eq.mpr c76
              clear c76
              by_cases c77 : x5_30 = true
              ·subst c77
               have H1 : (if a0_1 = 0 then (some 0) else (some 80)) = some r := by rw [if_pos rfl] at H; exact H
               clear H
               have H := H1
               clear H1
               by_cases c78 : a0_1 = 0
               ·rw [if_pos c78] at H
                have c78b0 : (a0_1 == 0) = true := beq_iff_eq.mpr c78
                have c78b1 : (a0_1 != 0) = false := bne_eq_false_iff_eq.mpr c78
                clear c78
                obtain rfl := Option.some.inj H
                obtain ⟨hcz79_0, hfz79_0, hcz79_1, hfz79_1, hcz79_2, hfz79_2, hcz79_3, hfz79_3, hcz79_4, hfz79_4, hcz79_5, hfz79_5, hcz79_6, hfz79_6, hcz79_7, hfz79_7, hcz79_8, hfz79_8⟩ := cfz9 BK182.out
                go_wp2
                go_ret
                exact ⟨by first | rfl | (simp [errW_none, errW_some] <;> rfl) | (simp [*, errW_none, errW_some] <;> rfl), bel_ HB.out⟩
               ·rw [if_neg c78] at H
                have c78b0 : (a0_1 == 0) = false := beq_eq_false_iff_ne.mpr c78
                have c78b1 : (a0_1 != 0) = true := bne_iff_ne.mpr c78
                obtain rfl := Option.some.inj H
                obtain ⟨hcz80_0, hfz80_0, hcz80_1, hfz80_1, hcz80_2, hfz80_2, hcz80_3, hfz80_3, hcz80_4, hfz80_4, hcz80_5, hfz80_5, hcz80_6, hfz80_6, hcz80_7, hfz80_7, hcz80_8, hfz80_8⟩ := cfz9 BK182.out
                go_wp2
                go_ret
                exact ⟨by first | rfl | (simp [errW_none, errW_some] <;> rfl) | (simp [*, errW_none, errW_some] <;> rfl), bel_ HB.out⟩
              ·replace c77 := Bool.eq_false_iff.mpr c77
               subst c77
               have H1 : (some 80) = some r := by rw [if_neg (show ¬ (false = true) by decide)] at H; exact H
               clear H
               have H := H1
               clear H1
               obtain rfl := Option.some.inj H
               obtain ⟨hcz81_0, hfz81_0, hcz81_1, hfz81_1, hcz81_2, hfz81_2, hcz81_3, hfz81_3, hcz81_4, hfz81_4, hcz81_5, hfz81_5, hcz81_6, hfz81_6, hcz81_7, hfz81_7, hcz81_8, hfz81_8⟩ := cfz9 BK182.out
               go_wp2
               go_ret
               exact ⟨by first | rfl | (simp [errW_none, errW_some] <;> rfl) | (simp [*, errW_none, errW_some] <;> rfl), bel_ HB.out⟩
             ·rw [if_neg c76] at H
              have c76b0 : (a0_0 == 4) = false := beq_eq_false_iff_ne.mpr c76
              have c76b1 : (a0_0 != 4) = true := bne_iff_ne.mpr c76
              by_cases c82 : a0_0 = 5
              ·rw [if_pos c82] at H
               have c82b0 : (a0_0 == 5) = true := beq_iff_eq.mpr c82
               have c82b1 : (a0_0 != 5) = false := bne_eq_false_iff_eq.mpr c82
               clear c82
               by_cases c83 : x5_30 = true
               ·subst c83
                have H1 : (if a0_1 = 0 then (some 80) else (if a0_2 = 0 then (some 80) else (some 0))) = some r := by rw [if_pos rfl] at H; exact H
                clear H
                have H := H1
                clear H1
                by_cases c84 : a0_1 = 0
                ·rw [if_pos c84] at H
                 have c84b0 : (a0_1 == 0) = true := beq_iff_eq.mpr c84
                 have c84b1 : (a0_1 != 0) = false := bne_eq_false_iff_eq.mpr c84
                 clear c84
                 obtain rfl := Option.some.inj H
                 obtain ⟨hcz85_0, hfz85_0, hcz85_1, hfz85_1, hcz85_2, hfz85_2, hcz85_3, hfz85_3, hcz85_4, hfz85_4, hcz85_5, hfz85_5, hcz85_6, hfz85_6, hcz85_7, hfz85_7, hcz85_8, hfz85_8⟩ := cfz9 BK182.out
                 go_wp2
                 go_ret
                 exact ⟨by first | rfl | (simp [errW_none, errW_some] <;> rfl) | (simp [*, errW_none, errW_some] <;> rfl), bel_ HB.out⟩
                ·rw [if_neg c84] at H
                 have c84b0 : (a0_1 == 0) = false := beq_eq_false_iff_ne.mpr c84
                 have c84b1 : (a0_1 != 0) = true := bne_iff_ne.mpr c84
                 by_cases c86 : a0_2 = 0
                 ·rw [if_pos c86] at H
                  have c86b0 : (a0_2 == 0) = true := beq_iff_eq.mpr c86
                  have c86b1 : (a0_2 != 0) = false := bne_eq_false_iff_eq.mpr c86
                  clear c86
                  obtain rfl := Option.some.inj H
                  obtain ⟨hcz87_0, hfz87_0, hcz87_1, hfz87_1, hcz87_2, hfz87_2, hcz87_3, hfz87_3, hcz87_4, hfz87_4, hcz87_5, hfz87_5, hcz87_6, hfz87_6, hcz87_7, hfz87_7, hcz87_8, hfz87_8⟩ := cfz9 BK182.out
                  go_wp2
                  go_ret
                  exact ⟨by first | rfl | (simp [errW_none, errW_some] <;> rfl) | (simp [*, errW_none, errW_some] <;> rfl), bel_ HB.out⟩
                 ·rw [if_neg c86] at H
                  have c86b0 : (a0_2 == 0) = false := beq_eq_false_iff_ne.mpr c86
                  have c86b1 : (a0_2 != 0) = true := bne_iff_ne.mpr c86
                  obtain rfl := Option.some.inj H
                  obtain ⟨hcz88_0, hfz88_0, hcz88_1, hfz88_1, hcz88_2, hfz88_2, hcz88_3, hfz88_3, hcz88_4, hfz88_4, hcz88_5, hfz88_5, hcz88_6, hfz88_6, hcz88_7, hfz88_7, hcz88_8, hfz88_8⟩ := cfz9 BK182.out
                  go_wp2
                  go_ret
                  exact ⟨by first | rfl | (simp [errW_none, errW_some] <;> rfl) | (simp [*, errW_none, errW_some] <;> rfl), bel_ HB.out⟩
               ·replace c83 := Bool.eq_false_iff.mpr c83
                subst c83
                have H1 : (some 80) = some r := by rw [if_neg (show ¬ (false = true) by decide)] at H; exact H
                clear H
                have H := H1
                clear H1
                obtain rfl := Option.some.inj H
                obtain ⟨hcz89_0, hfz89_0, hcz89_1, hfz89_1, hcz89_2, hfz89_2, hcz89_3, hfz89_3, hcz89_4, hfz89_4, hcz89_5, hfz89_5, hcz89_6, hfz89_6, hcz89_7, hfz89_7, hcz89_8, hfz89_8⟩ := cfz9 BK182.out
                go_wp2
                go_ret
                exact ⟨by first | rfl | (simp [errW_none, errW_some] <;> rfl) | (simp [*, errW_none, errW_some] <;> rfl), bel_ HB.out⟩
              ·rw [if_neg c82] at H
               have c82b0 : (a0_0 == 5) = false := beq_eq_false_iff_ne.mpr c82
               have c82b1 : (a0_0 != 5) = true := bne_iff_ne.mpr c82
               by_cases c90 : a0_0 = 6
               ·rw [if_pos c90] at H
                have c90b0 : (a0_0 == 6) = true := beq_iff_eq.mpr c90
                have c90b1 : (a0_0 != 6) = false := bne_eq_false_iff_eq.mpr c90
                clear c90
                by_cases c91 : x5_30 = true
                ·subst c91
                 have H1 : (if a0_1 = 0 then (some 80) else (if a0_2 = 0 then (some 0) else (some 80))) = some r := by rw [if_pos rfl] at H; exact H
                 clear H
                 have H := H1
                 clear H1
                 by_cases c92 : a0_1 = 0
                 ·rw [if_pos c92] at H
                  have c92b0 : (a0_1 == 0) = true := beq_iff_eq.mpr c92
                  have c92b1 : (a0_1 != 0) = false := bne_eq_false_iff_eq.mpr c92
                  clear c92
                  obtain rfl := Option.some.inj H
                  obtain ⟨hcz93_0, hfz93_0, hcz93_1, hfz93_1, hcz93_2, hfz93_2, hcz93_3, hfz93_3, hcz93_4, hfz93_4, hcz93_5, hfz93_5, hcz93_6, hfz93_6, hcz93_7, hfz93_7, hcz93_8, hfz93_8⟩ := cfz9 BK182.out
                  go_wp2
                  go_ret
                  exact ⟨by first | rfl | (simp [errW_none, errW_some] <;> rfl) | (simp [*, errW_none, errW_some] <;> rfl), bel_ HB.out⟩
                 ·rw [if_neg c92] at H
                  have c92b0 : (a0_1 == 0) = false := beq_eq_false_iff_ne.mpr c92
                  have c92b1 : (a0_1 != 0) = true := bne_iff_ne.mpr c92
                  by_cases c94 : a0_2 = 0
                  ·rw [if_pos c94] at H
                   have c94b0 : (a0_2 == 0) = true := beq_iff_eq.mpr c94
                   have c94b1 : (a0_2 != 0) = false := bne_eq_false_iff_eq.mpr c94
                   clear c94
                   obtain rfl := Option.some.inj H
                   obtain ⟨hcz95_0, hfz95_0, hcz95_1, hfz95_1, hcz95_2, hfz95_2, hcz95_3, hfz95_3, hcz95_4, hfz95_4, hcz95_5, hfz95_5, hcz95_6, hfz95_6, hcz95_7, hfz95_7, hcz95_8, hfz95_8⟩ := cfz9 BK182.out
                   go_wp2
                   go_ret
                   exact ⟨by first | rfl | (simp [errW_none, errW_some] <;> rfl) | (simp [*, errW_none, errW_some] <;> rfl), bel_ HB.out⟩
                  ·rw [if_neg c94] at H
                   have c94b0 : (a0_2 == 0) = false := beq_eq_false_iff_ne.mpr c94
                   have c94b1 : (a0_2 != 0) = true := bne_iff_ne.mpr c94
                   obtain rfl := Option.some.inj H
                   obtain ⟨hcz96_0, hfz96_0, hcz96_1, hfz96_1, hcz96_2, hfz96_2, hcz96_3, hfz96_3, hcz96_4, hfz96_4, hcz96_5, hfz96_5, hcz96_6, hfz96_6, hcz96_7, hfz96_7, hcz96_8, hfz96_8⟩ := cfz9 BK182.out
                   go_wp2
                   go_ret
                   exact ⟨by first | rfl | (simp [errW_none, errW_some] <;> rfl) | (simp [*, errW_none, errW_some] <;> rfl), bel_ HB.out⟩
                ·replace c91 := Bool.eq_false_iff.mpr c91
                 subst c91
                 have H1 : (some 80) = some r := by rw [if_neg (show ¬ (false = true) by decide)] at H; exact H
                 clear H
                 have H := H1
                 clear H1
                 obtain rfl := Option.some.inj H
                 obtain ⟨hcz97_0, hfz97_0, hcz97_1, hfz97_1, hcz97_2, hfz97_2, hcz97_3, hfz97_3, hcz97_4, hfz97_4, hcz97_5, hfz97_5, hcz97_6, hfz97_6, hcz97_7, hfz97_7, hcz97_8, hfz97_8⟩ := cfz9 BK182.out
                 go_wp2
                 go_ret
                 exact ⟨by first | rfl | (simp [errW_none, errW_some] <;> rfl) | (simp [*, errW_none, errW_some] <;> rfl), bel_ HB.out⟩
               ·rw [if_neg c90] at H
                have c90b0 : (a0_0 == 6) = false := beq_eq_false_iff_ne.mpr c90
                have c90b1 : (a0_0 != 6) = true := bne_iff_ne.mpr c90
                by_cases c98 : a0_0 = 7
                ·rw [if_pos c98] at H
                 have c98b0 : (a0_0 == 7) = true := beq_iff_eq.mpr c98
                 have c98b1 : (a0_0 != 7) = false := bne_eq_false_iff_eq.mpr c98
                 clear c98
                 by_cases c99 : x5_30 = true
                 ·subst c99
                  have H1 : (if a0_1 = 0 then (if a0_2 = 0 then (some 80) else (some 0)) else (some 80)) = some r := by rw [if_pos rfl] at H; exact H
                  clear H
                  have H := H1
                  clear H1
                  by_cases c100 : a0_1 = 0
                  ·rw [if_pos c100] at H
                   have c100b0 : (a0_1 == 0) = true := beq_iff_eq.mpr c100
                   have c100b1 : (a0_1 != 0) = false := bne_eq_false_iff_eq.mpr c100
                   clear c100
                   by_cases c101 : a0_2 = 0
                   ·rw [if_pos c101] at H
                    have c101b0 : (a0_2 == 0) = true := beq_iff_eq.mpr c101
                    have c101b1 : (a0_2 != 0) = false := bne_eq_false_iff_eq.mpr c101
                    clear c101
                    obtain rfl := Option.some.inj H
                    obtain ⟨hcz102_0, hfz102_0, hcz102_1, hfz102_1, hcz102_2, hfz102_2, hcz102_3, hfz102_3, hcz102_4, hfz102_4, hcz102_5, hfz102_5, hcz102_6, hfz102_6, hcz102_7, hfz102_7, hcz102_8, hfz102_8⟩ := cfz9 BK182.out
                    go_wp2
                    go_ret
                    exact ⟨by first | rfl | (simp [errW_none, errW_some] <;> rfl) | (simp [*, errW_none, errW_some] <;> rfl), bel_ HB.out⟩
                   ·rw [if_neg c101] at H
                    have c101b0 : (a0_2 == 0) = false := beq_eq_false_iff_ne.mpr c101
                    have c101b1 : (a0_2 != 0) = true := bne_iff_ne.mpr c101
                    obtain rfl := Option.some.inj H
                    obtain ⟨hcz103_0, hfz103_0, hcz103_1, hfz103_1, hcz103_2, hfz103_2, hcz103_3, hfz103_3, hcz103_4, hfz103_4, hcz103_5, hfz103_5, hcz103_6, hfz103_6, hcz103_7, hfz103_7, hcz103_8, hfz103_8⟩ := cfz9 BK182.out
                    go_wp2
                    go_ret
                    exact ⟨by first | rfl | (simp [errW_none, errW_some] <;> rfl) | (simp [*, errW_none, errW_some] <;> rfl), bel_ HB.out⟩
                  ·rw [if_neg c100] at H
                   have c100b0 : (a0_1 == 0) = false := beq_eq_false_iff_ne.mpr c100
                   have c100b1 : (a0_1 != 0) = true := bne_iff_ne.mpr c100
                   obtain rfl := Option.some.inj H
                   obtain ⟨hcz104_0, hfz104_0, hcz104_1, hfz104_1, hcz104_2, hfz104_2, hcz104_3, hfz104_3, hcz104_4, hfz104_4, hcz104_5, hfz104_5, hcz104_6, hfz104_6, hcz104_7, hfz104_7, hcz104_8, hfz104_8⟩ := cfz9 BK182.out
                   go_wp2
                   go_ret
                   exact ⟨by first | rfl | (simp [errW_none, errW_some] <;> rfl) | (simp [*, errW_none, errW_some] <;> rfl), bel_ HB.out⟩
                 ·replace c99 := Bool.eq_false_iff.mpr c99
                  subst c99
                  have H1 : (some 80) = some r := by rw [if_neg (show ¬ (false = true) by decide)] at H; exact H
                  clear H
                  have H := H1
                  clear H1
                  obtain rfl := Option.some.inj H
                  obtain ⟨hcz105_0, hfz105_0, hcz105_1, hfz105_1, hcz105_2, hfz105_2, hcz105_3, hfz105_3, hcz105_4, hfz105_4, hcz105_5, hfz105_5, hcz105_6, hfz105_6, hcz105_7, hfz105_7, hcz105_8, hfz105_8⟩ := cfz9 BK182.out
                  go_wp2
                  go_ret
                  exact ⟨by first | rfl | (simp [errW_none, errW_some] <;> rfl) | (simp [*, errW_none, errW_some] <;> rfl), bel_ HB.out⟩
                ·rw [if_neg c98] at H
                 have c98b0 : (a0_0 == 7) = false := beq_eq_false_iff_ne.mpr c98
                 have c98b1 : (a0_0 != 7) = true := bne_iff_ne.mpr c98
                 obtain rfl := Option.some.inj H
                 obtain ⟨hcz106_0, hfz106_0, hcz106_1, hfz106_1, hcz106_2, hfz106_2, hcz106_3, hfz106_3, hcz106_4, hfz106_4, hcz106_5, hfz106_5, hcz106_6, hfz106_6, hcz106_7, hfz106_7, hcz106_8, hfz106_8⟩ := cfz9 BK182.out
                 go_wp2
                 go_ret
                 exact ⟨by first | rfl | (simp [errW_none, errW_some] <;> rfl) | (simp [*, errW_none, errW_some] <;> rfl), bel_ HB.out⟩
set_option maxHeartbeats 8000000 in
set_option maxRecDepth 100000 in
theorem corncribref08_Check.calls (k : Nat) (a0_0 : Int) (a0_1 : Int) (a0_2 : Int) (a0_3 : Int) (a0_4 : ByteArray) (a0_5 : ByteArray) (a0_6 : Bool) (A0_7 : Option Addr) (c0_7 : Nat) (l0_7 : List ByteArray) (A0_8 : Option Addr) (c0_8 : Nat) (l0_8 : List (S50)) (r : Int) (w : World) (hr0_7 : Kd.C Kd.string w A0_7 l0_7.length l0_7) (hc0_7 : l0_7.length ≤ c0_7) (hr0_8 : Kd.C k50 w A0_8 l0_8.length l0_8) (hc0_8 : l0_8.length ≤ c0_8) (h : corncribref08_Check.f k a0_0 a0_1 a0_2 a0_3 a0_4 a0_5 a0_6 l0_7 l0_8 = some r) :
  Calls Try.prog 12 #[.agg #[.int .i64 a0_0, .int .i64 a0_1, .int .i64 a0_2, .int .i64 a0_3, .string a0_4, .string a0_5, .bool a0_6, .slice A0_7 l0_7.length c0_7, .slice A0_8 l0_8.length c0_8]] w fun e w' => e = .returned (.int .i64 r) ∧ Below w.heap.size w w' := by
 by_cases hk_ : a0_0 = 1 ∨ a0_0 = 2 ∨ a0_0 = 3
 ·exact corncribref08_Check.callsA k a0_0 a0_1 a0_2 a0_3 a0_4 a0_5 a0_6 A0_7 c0_7 l0_7 A0_8 c0_8 l0_8 r w hr0_7 hc0_7 hr0_8 hc0_8 h hk_
 ·exact corncribref08_Check.callsB k a0_0 a0_1 a0_2 a0_3 a0_4 a0_5 a0_6 A0_7 c0_7 l0_7 A0_8 c0_8 l0_8 r w hr0_7 hc0_7 hr0_8 hc0_8 h hk_
end Go.Proofs.Ytbfjbcaabijpfaa.Al

namespace Go.Proofs.Ytbfjbcaabijpfaa.Al
open Go.RowKit Go.Proofs.YtbfjbcaabijpfaaW.PrintWords Go.Proofs.YtbfjbcaabijpfaaW.PrintLast Go.Proofs.YtbfjbcaabijpfaaW.PrintMore
attribute [local go_sem] max2_int min2_int max_two min_two max_three min_three max_four min_four   -- for this text's walks alone
set_option linter.unusedVariables false
set_option linter.unusedSimpArgs false
def corncribref07_One.f (a0 : Bool) : Option (Int) := if a0 = true then (some 1) else (some 0)
set_option maxHeartbeats 8000000 in
set_option maxRecDepth 100000 in
theorem corncribref07_One.calls (a0 : Bool) (r : Int) (w : World) (h : corncribref07_One.f a0 = some r) :
  Calls Try.prog 43 #[.bool a0] w fun e w' => e = .returned (.int .i64 r) ∧ Drawn0 w w' := by
 have H : (if a0 = true then (some 1) else (some 0)) = some r := h
 clear h
 by_cases c2 : a0 = true
 ·subst c2
  have H1 : (some 1) = some r := by rw [if_pos rfl] at H; exact H
  clear H
  have H := H1
  clear H1
  obtain rfl := Option.some.inj H
  go_enter Try.func43, Try.ntmps43
  go_wp2
  go_ret
  exact ⟨by first | rfl | (simp; done) | (simp [*]; done), by repeat (first | exact Drawn0.refl _ | apply Drawn0.step)⟩
 ·replace c2 := Bool.eq_false_iff.mpr c2
  subst c2
  have H1 : (some 0) = some r := by rw [if_neg (show ¬ (false = true) by decide)] at H; exact H
  clear H
  have H := H1
  clear H1
  obtain rfl := Option.some.inj H
  go_enter Try.func43, Try.ntmps43
  go_wp2
  go_ret
  exact ⟨by first | rfl | (simp; done) | (simp [*]; done), by repeat (first | exact Drawn0.refl _ | apply Drawn0.step)⟩
end Go.Proofs.Ytbfjbcaabijpfaa.Al

namespace Go.Proofs.Ytbfjbcaabijpfaa.Al
open Go.RowKit Go.Proofs.YtbfjbcaabijpfaaW.PrintWords Go.Proofs.YtbfjbcaabijpfaaW.PrintLast Go.Proofs.YtbfjbcaabijpfaaW.PrintMore
attribute [local go_sem] max2_int min2_int max_two min_two max_three min_three max_four min_four   -- for this text's walks alone
set_option linter.unusedVariables false
set_option linter.unusedSimpArgs false
def corncribref06_Plain.l0 : Nat → Int → List Int → Option (ByteArray)
 |0, _, _ => none
 |k + 1, x0, x3 => if x0 ≥ 128 then (if x3.length < 140737488355328 then (corncribref06_Plain.l0 k (wrap64 (Int.tdiv x0 128)) (x3 ++ [(wrap64 ((Int.tmod x0 128) + 128)) % 256])) else (none)) else (if x3.length < 140737488355328 then (some (strOfNums (x3 ++ [(x0) % 256]))) else (none))
def corncribref06_Plain.f (k : Nat) (a0 : Int) : Option (ByteArray) := corncribref06_Plain.l0 k a0 ([] : List Int)
set_option maxHeartbeats 8000000 in
set_option maxRecDepth 100000 in
theorem corncribref06_Plain.calls (k : Nat) (a0 : Int) (r : ByteArray) (w : World) (h : corncribref06_Plain.f k a0 = some r) :
  Calls Try.prog 52 #[.int .i64 a0] w fun e w' => e = .returned (.string r) ∧ Below w.heap.size w w' := by
 have HB := Aside0.mk (Below.refl w.heap.size w)
 have H : (corncribref06_Plain.l0 k a0 ([] : List Int)) = some r := h
 clear h
 have H' := Aside0.mk H
 clear H
 go_enter Try.func52, Try.ntmps52
 go_wp2
 go_loopg [0, 3] k (fun kq v0 v3 w' => ∃ (x0_1 : Int) (x3_1 : List Int), v0 = .int .i64 x0_1 ∧ Aside0 (corncribref06_Plain.l0 kq x0_1 x3_1 = some r) ∧ Aside0 (kq ≤ k) ∧ Aside0 (Kd.R (Kd.int .u8) 5 w' w.heap.size (fun _ => True) v3 x3_1) ∧ Aside0 (Below w.heap.size w w'))
 case atStart => exact ⟨(a0), (([] : List Int)), (by first | rfl | (simp; done) | (simp [*]; done)), H', ⟨Nat.le_refl _⟩, ⟨by first | exact Kd.R_nil _ _ _ _ _ | exact Kd.N_nil _ _ _ _ _ | exact Kd.V_nil _ _ _ _ _ | exact Kd.Q_nil _ _ _ _ _ | exact Kd.S_nil _ _ _ _ _⟩, ⟨by repeat (first | (with_reducible first | exact HB.out | apply below_alloc | apply pw_below_drewN | apply below_drew1) | exact HB.out)⟩⟩
 case round =>
  clear H'
  obtain ⟨x0_1, x3_1, rfl, HA, HK1, HO_3, HB⟩ := hrel
  cases gk with
  |zero => exact absurd HA.out (by simp [corncribref06_Plain.l0])
  |succ k1 =>
   have H := HA.out
   clear HA
   simp only [corncribref06_Plain.l0] at H
   by_cases c2 : x0_1 ≥ 128
   ·rw [if_pos c2] at H
    have c2b0 : decide (128 ≤ x0_1) = true := decide_eq_true c2
    clear c2
    by_cases c3 : x3_1.length < 140737488355328
    ·rw [if_pos c3] at H
     have LMc3 := Aside0.mk c3
     clear c3
     obtain ⟨y189, hy189⟩ : ∃ y_ : List Int, y_ = (x3_1 ++ [(wrap64 ((Int.tmod x0_1 128) + 128)) % 256]) := ⟨_, rfl⟩
     replace H : (corncribref06_Plain.l0 k1 (wrap64 (Int.tdiv x0_1 128)) y189) = some r := by first | (rw [hy189]; with_reducible exact H) | (have H2_ := (Option.bind_some _ _).symm.trans H; rw [hy189]; with_reducible exact H2_) | (have H2_ := (Option.bind_some _ _).symm.trans H; with_reducible exact H2_) | with_reducible exact H | (rw [hy189]; exact H) | exact H
     have Ny189 := Aside0.mk hy189
     clear hy189
     have H' := Aside0.mk H
     clear H
     go_wp2_with (first | ((with_reducible refine gate_builtin (b := .append) (xs := #[.tmp 6, .tmp 11]) rfl ?_); at_builtin; refine Kd.R_append (Kd.int .u8) (w0 := w) w.heap.size rfl (.tmp 6) (.tmp 11) 67 5 (.int .u8 0) 1 rfl Try.underlying67 info5 rfl (by decide) (by omega) u3 x3_1 ((wrap64 ((Int.tmod x0_1 128) + 128)) % 256) [.int .u8 ((wrap64 ((Int.tmod x0_1 128) + 128)) % 256)] (fun _ => True) (fun _ => False) rfl rfl ?aP (fun _ hk => hk.elim) ?aF ?aO ?aB ?aS ?aL ?_; (case aP => exact rfl); (case aB => exact (by repeat (first | (with_reducible first | exact HB.out | apply below_alloc | apply pw_below_drewN | apply below_drew1) | exact HB.out))); (case aF => exact (fun _ _ => trivial)); (case aO => exact (by (with_reducible repeat (first | apply Kd.R_alloc | apply Kd.R_drewN | apply Kd.R_drew)); exact HO_3.out)); (case aS => exact (below_size (by repeat (first | (with_reducible first | exact HB.out | apply below_alloc | apply pw_below_drewN | apply below_drew1) | exact HB.out)))); (case aL => have := LMc3.out; omega); intro v190 w4 ho hb hg hat; rw [← Ny189.out] at ho; have n0_ := Aside0.mk (hb); have n1_ := Aside0.mk (ho); clear HB; clear HO_3; have HB := n0_; have HO191 := n1_; clear n0_ n1_; clear ho hb hg hat))
     go_roundg k1
     case measure => have := HK1.out; omega
     case rel => exact ⟨(wrap64 (Int.tdiv x0_1 128)), (y189), (by first | rfl | (simp; done) | (simp [*]; done)), H', ⟨by have := HK1.out; omega⟩, ⟨by (with_reducible repeat (first | apply Kd.R_alloc | apply Kd.R_drewN | apply Kd.R_drew)); exact HO191.out⟩, ⟨by repeat (first | (with_reducible first | exact HB.out | apply below_alloc | apply pw_below_drewN | apply below_drew1) | exact HB.out)⟩⟩
    ·rw [if_neg c3] at H
     exact absurd H (by simp)
   ·rw [if_neg c2] at H
    have c2b0 : decide (128 ≤ x0_1) = false := decide_eq_false c2
    clear c2
    by_cases c5 : x3_1.length < 140737488355328
    ·rw [if_pos c5] at H
     have LMc5 := Aside0.mk c5
     clear c5
     obtain ⟨y192, hy192⟩ : ∃ y_ : List Int, y_ = (x3_1 ++ [(x0_1) % 256]) := ⟨_, rfl⟩
     replace H : (some (strOfNums y192)) = some r := by first | (rw [hy192]; with_reducible exact H) | (have H2_ := (Option.bind_some _ _).symm.trans H; rw [hy192]; with_reducible exact H2_) | (have H2_ := (Option.bind_some _ _).symm.trans H; with_reducible exact H2_) | with_reducible exact H | (rw [hy192]; exact H) | exact H
     have Ny192 := Aside0.mk hy192
     clear hy192
     obtain rfl := Option.some.inj H
     go_wp2_with (first | ((with_reducible refine gate_builtin (b := .append) (xs := #[.tmp 15, .tmp 18]) rfl ?_); at_builtin; refine Kd.R_append (Kd.int .u8) (w0 := w) w.heap.size rfl (.tmp 15) (.tmp 18) 67 5 (.int .u8 0) 1 rfl Try.underlying67 info5 rfl (by decide) (by omega) u3 x3_1 ((x0_1) % 256) [.int .u8 ((x0_1) % 256)] (fun _ => True) (fun _ => False) rfl rfl ?aP (fun _ hk => hk.elim) ?aF ?aO ?aB ?aS ?aL ?_; (case aP => exact rfl); (case aB => exact (by repeat (first | (with_reducible first | exact HB.out | apply below_alloc | apply pw_below_drewN | apply below_drew1) | exact HB.out))); (case aF => exact (fun _ _ => trivial)); (case aO => exact (by (with_reducible repeat (first | apply Kd.R_alloc | apply Kd.R_drewN | apply Kd.R_drew)); exact HO_3.out)); (case aS => exact (below_size (by repeat (first | (with_reducible first | exact HB.out | apply below_alloc | apply pw_below_drewN | apply below_drew1) | exact HB.out)))); (case aL => have := LMc5.out; omega); intro v193 w6 ho hb hg hat; rw [← Ny192.out] at ho; have n0_ := Aside0.mk (hb); have n1_ := Aside0.mk (ho); clear HB; clear HO_3; have HB := n0_; have HO194 := n1_; clear n0_ n1_; clear ho hb hg hat; have hcv7 := own_string (P := Try.prog) Try.underlying67 Try.underlying5 Try.underlying9 (Kd.own_of_R HO194.out)))
     go_ret
     exact ⟨by first | rfl | (simp [errW_none, errW_some] <;> rfl) | (simp [*, errW_none, errW_some] <;> rfl), by repeat (first | (with_reducible first | exact HB.out | apply below_alloc | apply pw_below_drewN | apply below_drew1) | exact HB.out)⟩
    ·rw [if_neg c5] at H
     exact absurd H (by simp)
end Go.Proofs.Ytbfjbcaabijpfaa.Al

namespace Go.Proofs.Ytbfjbcaabijpfaa.Al
open Go.RowKit Go.Proofs.YtbfjbcaabijpfaaW.PrintWords Go.Proofs.YtbfjbcaabijpfaaW.PrintLast Go.Proofs.YtbfjbcaabijpfaaW.PrintMore
attribute [local go_sem] max2_int min2_int max_two min_two max_three min_three max_four min_four   -- for this text's walks alone
set_option linter.unusedVariables false
set_option linter.unusedSimpArgs false
def corncribref06_Signed.f (k : Nat) (a0 : Int) : Option (ByteArray) := if a0 < 0 then ((corncribref06_Plain.f k (wrap64 ((wrap64 ((-2) * (wrap64 (a0 + 1)))) + 1))).bind fun t195 => (some t195)) else ((corncribref06_Plain.f k (wrap64 (2 * a0))).bind fun t196 => (some t196))
set_option maxHeartbeats 8000000 in
set_option maxRecDepth 100000 in
theorem corncribref06_Signed.calls (k : Nat) (a0 : Int) (r : ByteArray) (w : World) (h : corncribref06_Signed.f k a0 = some r) :
  Calls Try.prog 53 #[.int .i64 a0] w fun e w' => e = .returned (.string r) ∧ Below w.heap.size w w' := by
 have HB := Aside0.mk (Below.refl w.heap.size w)
 have H : (if a0 < 0 then ((corncribref06_Plain.f k (wrap64 ((wrap64 ((-2) * (wrap64 (a0 + 1)))) + 1))).bind fun t195 => (some t195)) else ((corncribref06_Plain.f k (wrap64 (2 * a0))).bind fun t196 => (some t196))) = some r := h
 clear h
 by_cases c2 : a0 < 0
 ·rw [if_pos c2] at H
  have c2b0 : decide (a0 < 0) = true := decide_eq_true c2
  clear c2
  replace H := Option.bind_eq_some_iff.mp H
  obtain ⟨t195, A30, H⟩ := H
  replace H : (some t195) = some r := H
  have A3 := Aside0.mk A30
  clear A30
  obtain rfl := Option.some.inj H
  go_enter Try.func53, Try.ntmps53
  go_wp2_with (first | ((with_reducible refine gate_callee (f := 52) rfl ?_); refine goesL_ (some 9) rfl rfl Try.func52 (by kernel_rfl) rfl #[.int .i64 (wrap64 ((wrap64 ((-2) * (wrap64 (a0 + 1)))) + 1))] rfl (by (try simp only [List.map_toArray, List.map_cons, List.map_nil]); first | done | rfl | (simp only [List.length_drop, List.length_take]; rfl)) ?_; (with_reducible refine (corncribref06_Plain.calls k (wrap64 ((wrap64 ((-2) * (wrap64 (a0 + 1)))) + 1)) t195 _ A3.out).mono ?_); rintro e w4 ⟨rfl, hb⟩; refine ⟨_, rfl, ?_⟩; have n0_ := Aside0.mk (below_step (by repeat (first | (with_reducible first | exact HB.out | apply below_alloc | apply pw_below_drewN | apply below_drew1) | exact HB.out)) hb); clear HB; have HB := n0_; clear n0_; (try clear hb); (try clear hb2); (try clear hk); (try clear hi)))
  go_ret
  exact ⟨by first | rfl | (simp [errW_none, errW_some] <;> rfl) | (simp [*, errW_none, errW_some] <;> rfl), by repeat (first | (with_reducible first | exact HB.out | apply below_alloc | apply pw_below_drewN | apply below_drew1) | exact HB.out)⟩
 ·rw [if_neg c2] at H
  have c2b0 : decide (a0 < 0) = false := decide_eq_false c2
  clear c2
  replace H := Option.bind_eq_some_iff.mp H
  obtain ⟨t196, A50, H⟩ := H
  replace H : (some t196) = some r := H
  have A5 := Aside0.mk A50
  clear A50
  obtain rfl := Option.some.inj H
  go_enter Try.func53, Try.ntmps53
  go_wp2_with (first | ((with_reducible refine gate_callee (f := 52) rfl ?_); refine goesL_ (some 12) rfl rfl Try.func52 (by kernel_rfl) rfl #[.int .i64 (wrap64 (2 * a0))] rfl (by (try simp only [List.map_toArray, List.map_cons, List.map_nil]); first | done | rfl | (simp only [List.length_drop, List.length_take]; rfl)) ?_; (with_reducible refine (corncribref06_Plain.calls k (wrap64 (2 * a0)) t196 _ A5.out).mono ?_); rintro e w6 ⟨rfl, hb⟩; refine ⟨_, rfl, ?_⟩; have n0_ := Aside0.mk (below_step (by repeat (first | (with_reducible first | exact HB.out | apply below_alloc | apply pw_below_drewN | apply below_drew1) | exact HB.out)) hb); clear HB; have HB := n0_; clear n0_; (try clear hb); (try clear hb2); (try clear hk); (try clear hi)))
  go_ret
  exact ⟨by first | rfl | (simp [errW_none, errW_some] <;> rfl) | (simp [*, errW_none, errW_some] <;> rfl), by repeat (first | (with_reducible first | exact HB.out | apply below_alloc | apply pw_below_drewN | apply below_drew1) | exact HB.out)⟩
end Go.Proofs.Ytbfjbcaabijpfaa.Al
