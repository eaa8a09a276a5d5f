/- For every element and every two texts: sums of products go over sums, and over what is scaled, place by place. The walk of the law over the contracts of the field's functions. -/
import Derived.Test.YtcfkldbcmbgomaaGfRef
import Derived.Test.YtcfkldbcmbgomaaFgfAdd
import Derived.Test.YtcfkldbcmbgomaaFcorncriblaw01names
import Derived.Test.YtcfkldbcmbgomaaGfField
import Derived.Test.YtcfkldbcmbgomaaGfLaws
import Derived.Test.YtcfkldbcmbgomaaGfLin
namespace Go.Proofs.Ytcfkldbcmbgomaa.Al
open Go.RowKit Go.Proofs.Ytcfkldbcmbgomaa.GfMath Go.Proofs.Ytcfkldbcmbgomaa.GfRef Go.Proofs.Ytcfkldbcmbgomaa.Base Go.Proofs.YtcfkldbcmbgomaaW.PrintWords Go.Proofs.YtcfkldbcmbgomaaW.PrintLast Go.Proofs.YtcfkldbcmbgomaaW.PrintMore
set_option linter.unusedVariables false
set_option linter.unusedSimpArgs false
open Go.Proofs.Ytcfkldbcmbgomaa.Bytes
attribute [local go_sem] max2_int min2_int max_two min_two max_three min_three max_four min_four
def corncriblaw01_GfLinear.f (a : Int) (s : ByteArray) (t : ByteArray) : Option Bool := if (0 ≤ a ∧ a < 256) ∧ (s.size ≤ 140737488351232) ∧ (t.size ≤ 140737488351232) then some true else none
set_option maxHeartbeats 8000000 in
set_option maxRecDepth 100000 in
theorem corncriblaw01_GfLinear.calls (a : Int) (s : ByteArray) (t : ByteArray) (r : Bool) (w : World) (h : corncriblaw01_GfLinear.f a s t = some r) (hr_ : r = true) :
    Calls Try.prog 12 #[.int .u8 a, .string s, .string t] w fun e w' => e = .returned (.bool r) ∧ Below w.heap.size w w' := by
  subst hr_
  unfold corncriblaw01_GfLinear.f at h
  split at h
  case isFalse => cases h
  rename_i hh
  obtain ⟨h_a, h_s, h_t⟩ := hh
  clear h
  have by_a : Byte a := h_a
  clear h_a
  by_cases hc : (t.size : Int) < (s.size : Int)
  · have hmk := print_make (P := Try.prog) 44 5 .u8 1 Try.underlying44 info5 (by decide) t.size (by omega)
    go_enter Try.func12, Try.ntmps12
    go_wp2_with (go_at_call 30; refine (field.calls _).mono ?_; rintro e w1 ⟨g, rfl, hg, ht, hb⟩; have HT := Aside0.mk ht; have HG := Aside0.mk hg; have HB := Aside0.mk hb; clear hg ht hb)
    try go_quiet (fail)
    try go_wp2
    generalize hX_ : s.extract 0 t.size = S
    have hXs : S.size = t.size := by rw [← hX_]; simp; omega
    have HS_ : Aside0 (S.size = t.size) := ⟨by first | exact hXs | rfl⟩
    have HT_ : Aside0 (t.size = t.size) := ⟨by first | exact hXs | rfl⟩
    clear hX_ hXs hmk
    have hgb1 : w.heap.size ≤ w1.heap.size := HB.out.size
    have hgn : g ≠ w1.heap.size := Nat.ne_of_lt HT.out.lt
    have HN1 := Aside0.mk hgn
    have HG1 := Aside0.mk hgb1
    clear hgn hgb1
    generalize hW1 : World.alloc _ _ = W1
    have HT1 : Aside0 (Tab W1 g) := ⟨by rw [← hW1]; exact (HT.out.drewN _).alloc _⟩
    have HB1 : Aside0 (Below w.heap.size w W1) := ⟨by rw [← hW1]; exact below_alloc (pw_below_drewN HB.out _) _⟩
    have HC1 : Aside0 (Bc W1 w1.heap.size t.size (F1 S 0)) := ⟨by rw [← hW1]; exact (bc_lit (w1.drewN _) 5 _ t.size (fun j hj => made_get _ _ _ hj)).congr (fun j _ => by simp [F1])⟩
    clear hW1 HT HB
    generalize w1.heap.size = gb at HN1 HG1 HC1 ⊢
    have hm2 := print_make (P := Try.prog) 44 5 .u8 1 Try.underlying44 info5 (by decide) t.size (by omega)
    have HM2 := Aside0.mk hm2
    clear hm2
    go_loopw [42] (fun v42 wr => ∃ k : Int, 0 ≤ k ∧ k ≤ (t.size : Int) ∧ v42 = .int .i64 k ∧ Aside0 (Tab wr g) ∧ Aside0 (Below w.heap.size w wr) ∧ Aside0 (Bc wr gb t.size (F1 S k.toNat))) (fun i _ => t.size - (intOf i).toNat)
    case atStart => exact ⟨0, by omega, by omega, rfl, HT1, HB1, HC1⟩
    case round =>
      obtain ⟨k, h0, h1, rfl, HTr, HBr, HCr⟩ := hrel
      clear HT1 HB1 HC1
      by_cases c4 : k < (t.size : Int)
      · have c4b0 : decide (k < (t.size : Int)) = true := decide_eq_true c4
        have c5b0 : decide (0 ≤ k) = true := decide_eq_true h0
        have hsz := HS_
        have q6 : k < (S.size : Int) := by first | omega | (rw [HS_.out]; omega)
        have q6b : decide (k < (S.size : Int)) = true := decide_eq_true q6
        clear hsz
        have hx6 := bt_at S k
        have hx := HCr.out.cell (j := k.toNat) (by omega)
        have hf := HCr.out.frozen (j := k.toNat) (by omega)
        have HD := Aside0.mk (show ∀ j, (if j = k.toNat then Go.bits .xor .u8 (bt S k) (k % 256) else F1 S k.toNat j) = F1 S (k + 1).toNat j from fun j => by obtain ⟨m, rfl⟩ := Int.eq_ofNat_of_zero_le h0; rw [show ((m : Int) + 1).toNat = m + 1 from by omega, Int.toNat_natCast]; exact F1_next _ _ _)
        go_wp2
        go_roundw
        case rel => exact ⟨k + 1, by omega, by omega, rfl, ⟨HTr.out.far HN1.out _⟩, ⟨below_set HBr.out HG1.out⟩, ⟨(HCr.out.set (by omega) _).congr (fun j _ => HD.out j)⟩⟩
        case measure => simp [intOf]; omega
      · obtain rfl : k = (t.size : Int) := by omega
        have c4b0 : decide ((t.size : Int) < (t.size : Int)) = false := decide_eq_false c4
        clear c4 h0 h1
        have hm2 := HM2.out
        go_wp2
        clear hm2
        have HCa : Aside0 (Bc wr gb t.size (F1 S t.size)) := ⟨by have := HCr.out; rwa [Int.toNat_natCast] at this⟩
        clear HCr
        have hgn : g ≠ wr.heap.size := Nat.ne_of_lt HTr.out.lt
        have hgc : gb ≠ wr.heap.size := Nat.ne_of_lt HCa.out.lt
        have hgb1 : w.heap.size ≤ wr.heap.size := HBr.out.size
        have HN2 := Aside0.mk hgn
        have HN3 := Aside0.mk hgc
        have HG2 := Aside0.mk hgb1
        clear hgn hgc hgb1
        generalize hW2 : World.alloc _ _ = W2
        have HT2 : Aside0 (Tab W2 g) := ⟨by rw [← hW2]; exact HTr.out.alloc _⟩
        have HB2 : Aside0 (Below w.heap.size w W2) := ⟨by rw [← hW2]; exact below_alloc HBr.out _⟩
        have HCb : Aside0 (Bc W2 gb t.size (F1 S t.size)) := ⟨by rw [← hW2]; exact HCa.out.below (below_alloc (Below.refl _ _) _)⟩
        have HC2 : Aside0 (Bc W2 wr.heap.size t.size (F2 0)) := ⟨by rw [← hW2]; exact (bc_lit wr 5 _ t.size (fun j hj => made_get _ _ _ hj)).congr (fun j _ => by simp [F2])⟩
        clear hW2 HTr HBr HCa
        generalize wr.heap.size = gc at HN2 HN3 HG2 HC2 ⊢
        obtain ⟨wo, rfl⟩ : ∃ wo : World, wo = wr := ⟨_, rfl⟩
        go_loopw [58] (fun v58 wr => ∃ k : Int, 0 ≤ k ∧ k ≤ (t.size : Int) ∧ v58 = .int .i64 k ∧ Aside0 (Tab wr g) ∧ Aside0 (Below w.heap.size w wr) ∧ Aside0 (Bc wr gb t.size (F1 S t.size)) ∧ Aside0 (Bc wr gc t.size (F2 k.toNat))) (fun i _ => t.size - (intOf i).toNat)
        case atStart => exact ⟨0, by omega, by omega, rfl, HT2, HB2, HCb, HC2⟩
        case round =>
          obtain ⟨k, h0, h1, rfl, HTr, HBr, HCa, HCr⟩ := hrel
          clear HT2 HB2 HCb HC2
          by_cases c4 : k < (t.size : Int)
          · have c4b0 : decide (k < (t.size : Int)) = true := decide_eq_true c4
            have c5b0 : decide (0 ≤ k) = true := decide_eq_true h0
            have hx := HCr.out.cell (j := k.toNat) (by omega)
            have hf := HCr.out.frozen (j := k.toNat) (by omega)
            have HD := Aside0.mk (show ∀ j, (if j = k.toNat then k % 256 else F2 k.toNat j) = F2 (k + 1).toNat j from fun j => by obtain ⟨m, rfl⟩ := Int.eq_ofNat_of_zero_le h0; rw [show ((m : Int) + 1).toNat = m + 1 from by omega, Int.toNat_natCast]; exact F2_next _ _)
            go_wp2
            go_roundw
            case rel => exact ⟨k + 1, by omega, by omega, rfl, ⟨HTr.out.far HN2.out _⟩, ⟨below_set HBr.out HG2.out⟩, ⟨HCa.out.far HN3.out _⟩, ⟨(HCr.out.set (by omega) _).congr (fun j _ => HD.out j)⟩⟩
            case measure => simp [intOf]; omega
          · obtain rfl : k = (t.size : Int) := by omega
            have c4b0 : decide ((t.size : Int) < (t.size : Int)) = false := decide_eq_false c4
            clear c4 h0 h1
            have HCc : Aside0 (Bc wr gc t.size (F2 t.size)) := ⟨by have := HCr.out; rwa [Int.toNat_natCast] at this⟩
            clear HCr
            have hcu : ∀ m : Nat, (convert 44 9 (.slice (some ⟨gc, 0, none⟩) t.size t.size)).run Try.prog (wr.drewN m) = .ok (.string (strOfNums (listOf t.size (F2 t.size)))) (wr.drewN m) := fun m => Bc.string (c := t.size) Try.underlying44 Try.underlying5 Try.underlying9 (HCc.out.drewN m) (by omega)
            have hcb : ∀ m : Nat, (convert 44 9 (.slice (some ⟨gb, 0, none⟩) t.size t.size)).run Try.prog (wr.drewN m) = .ok (.string (strOfNums (listOf t.size (F1 S t.size)))) (wr.drewN m) := fun m => Bc.string (c := t.size) Try.underlying44 Try.underlying5 Try.underlying9 (HCa.out.drewN m) (by omega)
            obtain ⟨l1, l2, l3, l4, l5, l6, l7, yD⟩ := linear by_a S t t.size (by first | exact HS_.out | rfl) (by first | exact HT_.out | rfl)
            have zS : S.size ≤ 9223372036854775807 := by first | omega | (rw [HS_.out]; omega)
            have zS2 : S.size ≤ 140737488355328 := by first | omega | (rw [HS_.out]; omega)
            have zU : (strOfNums (listOf t.size (F2 t.size))).size ≤ 9223372036854775807 := by rw [nums_size, listOf_length]; omega
            have zB : (strOfNums (listOf t.size (F1 S t.size))).size ≤ 9223372036854775807 := by rw [nums_size, listOf_length]; omega
            have zC : (strOfNums (scaleL a S)).size ≤ 9223372036854775807 := by rw [l7]; omega
            clear HCa HCc HN1 HN2 HN3 HG1 HG2 HS_ HT_ HM2
            generalize strOfNums (listOf t.size (F2 t.size)) = U at hcu l2 l5 zU
            generalize strOfNums (listOf t.size (F1 S t.size)) = V at hcb l3 l5 zB
            go_wp2_with (first | (go_at_call 26; refine (gf_Dot.calls g _ _ _ ?dT ?dS).mono ?_; (case dT => repeat (first | exact HT3.out | exact HT2.out | exact HTr.out | exact HT.out | (with_reducible refine Tab.drewN ?_ _) | (with_reducible refine Tab.alloc ?_ _))); (case dS => first | exact zS | exact zU | exact zB | exact zC); rintro e w' ⟨rfl, nd, rfl⟩; (try first | exact ⟨rfl, _, World.drewN_drewN _ _ _⟩ | exact ⟨rfl, _, Eq.trans (World.drewN_drewN _ _ _) (congrArg (World.drewN _) (Nat.add_assoc _ _ _))⟩)) | (go_at_call 14; refine (gMul g _ _ _ ?mT ?m1 ?m2).mono ?_; (case mT => repeat (first | exact HT3.out | exact HT2.out | exact HTr.out | exact HT.out | (with_reducible refine Tab.drewN ?_ _) | (with_reducible refine Tab.alloc ?_ _))); (case m1 => exact by_a); (case m2 => exact yD); rintro e w' ⟨rfl, nd, rfl⟩; (try first | exact ⟨rfl, _, World.drewN_drewN _ _ _⟩ | exact ⟨rfl, _, Eq.trans (World.drewN_drewN _ _ _) (congrArg (World.drewN _) (Nat.add_assoc _ _ _))⟩)) | (go_at_call 16; refine (gf_Add.calls _ _ _ _ rfl).mono ?_; rintro e w' ⟨rfl, nd, rfl⟩; (try first | exact ⟨rfl, _, World.drewN_drewN _ _ _⟩ | exact ⟨rfl, _, Eq.trans (World.drewN_drewN _ _ _) (congrArg (World.drewN _) (Nat.add_assoc _ _ _))⟩)) | (go_at_call 28; refine (gf_Scale.calls g a _ _ ?sT by_a ?sS).mono ?_; (case sT => repeat (first | exact HT3.out | exact HT2.out | exact HTr.out | exact HT.out | (with_reducible refine Tab.drewN ?_ _) | (with_reducible refine Tab.alloc ?_ _))); (case sS => exact zS2); rintro e w2 ⟨rfl, hb2⟩; have HB3 := Aside0.mk (below_step (w := w) (show Below w.heap.size w _ from by repeat (first | exact HB3.out | exact HBr.out | refine pw_below_drewN ?_ _)) hb2); have HT3 := Aside0.mk (Tab.below (show Tab _ g from by repeat (first | exact HT3.out | exact HT2.out | exact HTr.out | exact HT.out | (with_reducible refine Tab.drewN ?_ _) | (with_reducible refine Tab.alloc ?_ _))) hb2); clear hb2))
            go_ret
            exact ⟨rfl, by repeat (first | exact HB3.out | refine pw_below_drewN ?_ _)⟩
  · have hc2 : (s.size : Int) ≤ (t.size : Int) := by omega
    have hmk := print_make (P := Try.prog) 44 5 .u8 1 Try.underlying44 info5 (by decide) s.size (by omega)
    go_enter Try.func12, Try.ntmps12
    go_wp2_with (go_at_call 30; refine (field.calls _).mono ?_; rintro e w1 ⟨g, rfl, hg, ht, hb⟩; have HT := Aside0.mk ht; have HG := Aside0.mk hg; have HB := Aside0.mk hb; clear hg ht hb)
    try go_quiet (fail)
    try go_wp2
    generalize hX_ : t.extract 0 s.size = T
    have hXs : T.size = s.size := by rw [← hX_]; simp; omega
    have HS_ : Aside0 (s.size = s.size) := ⟨by first | exact hXs | rfl⟩
    have HT_ : Aside0 (T.size = s.size) := ⟨by first | exact hXs | rfl⟩
    clear hX_ hXs hmk
    have hgb1 : w.heap.size ≤ w1.heap.size := HB.out.size
    have hgn : g ≠ w1.heap.size := Nat.ne_of_lt HT.out.lt
    have HN1 := Aside0.mk hgn
    have HG1 := Aside0.mk hgb1
    clear hgn hgb1
    generalize hW1 : World.alloc _ _ = W1
    have HT1 : Aside0 (Tab W1 g) := ⟨by rw [← hW1]; exact (HT.out.drewN _).alloc _⟩
    have HB1 : Aside0 (Below w.heap.size w W1) := ⟨by rw [← hW1]; exact below_alloc (pw_below_drewN HB.out _) _⟩
    have HC1 : Aside0 (Bc W1 w1.heap.size s.size (F1 s 0)) := ⟨by rw [← hW1]; exact (bc_lit (w1.drewN _) 5 _ s.size (fun j hj => made_get _ _ _ hj)).congr (fun j _ => by simp [F1])⟩
    clear hW1 HT HB
    generalize w1.heap.size = gb at HN1 HG1 HC1 ⊢
    have hm2 := print_make (P := Try.prog) 44 5 .u8 1 Try.underlying44 info5 (by decide) s.size (by omega)
    have HM2 := Aside0.mk hm2
    clear hm2
    go_loopw [42] (fun v42 wr => ∃ k : Int, 0 ≤ k ∧ k ≤ (s.size : Int) ∧ v42 = .int .i64 k ∧ Aside0 (Tab wr g) ∧ Aside0 (Below w.heap.size w wr) ∧ Aside0 (Bc wr gb s.size (F1 s k.toNat))) (fun i _ => s.size - (intOf i).toNat)
    case atStart => exact ⟨0, by omega, by omega, rfl, HT1, HB1, HC1⟩
    case round =>
      obtain ⟨k, h0, h1, rfl, HTr, HBr, HCr⟩ := hrel
      clear HT1 HB1 HC1
      by_cases c4 : k < (s.size : Int)
      · have c4b0 : decide (k < (s.size : Int)) = true := decide_eq_true c4
        have c5b0 : decide (0 ≤ k) = true := decide_eq_true h0
        have hsz := HS_
        have q6 : k < (s.size : Int) := by first | omega | (rw [HS_.out]; omega)
        have q6b : decide (k < (s.size : Int)) = true := decide_eq_true q6
        clear hsz
        have hx6 := bt_at s k
        have hx := HCr.out.cell (j := k.toNat) (by omega)
        have hf := HCr.out.frozen (j := k.toNat) (by omega)
        have HD := Aside0.mk (show ∀ j, (if j = k.toNat then Go.bits .xor .u8 (bt s k) (k % 256) else F1 s k.toNat j) = F1 s (k + 1).toNat j from fun j => by obtain ⟨m, rfl⟩ := Int.eq_ofNat_of_zero_le h0; rw [show ((m : Int) + 1).toNat = m + 1 from by omega, Int.toNat_natCast]; exact F1_next _ _ _)
        go_wp2
        go_roundw
        case rel => exact ⟨k + 1, by omega, by omega, rfl, ⟨HTr.out.far HN1.out _⟩, ⟨below_set HBr.out HG1.out⟩, ⟨(HCr.out.set (by omega) _).congr (fun j _ => HD.out j)⟩⟩
        case measure => simp [intOf]; omega
      · obtain rfl : k = (s.size : Int) := by omega
        have c4b0 : decide ((s.size : Int) < (s.size : Int)) = false := decide_eq_false c4
        clear c4 h0 h1
        have hm2 := HM2.out
        go_wp2
        clear hm2
        have HCa : Aside0 (Bc wr gb s.size (F1 s s.size)) := ⟨by have := HCr.out; rwa [Int.toNat_natCast] at this⟩
        clear HCr
        have hgn : g ≠ wr.heap.size := Nat.ne_of_lt HTr.out.lt
        have hgc : gb ≠ wr.heap.size := Nat.ne_of_lt HCa.out.lt
        have hgb1 : w.heap.size ≤ wr.heap.size := HBr.out.size
        have HN2 := Aside0.mk hgn
        have HN3 := Aside0.mk hgc
        have HG2 := Aside0.mk hgb1
        clear hgn hgc hgb1
        generalize hW2 : World.alloc _ _ = W2
        have HT2 : Aside0 (Tab W2 g) := ⟨by rw [← hW2]; exact HTr.out.alloc _⟩
        have HB2 : Aside0 (Below w.heap.size w W2) := ⟨by rw [← hW2]; exact below_alloc HBr.out _⟩
        have HCb : Aside0 (Bc W2 gb s.size (F1 s s.size)) := ⟨by rw [← hW2]; exact HCa.out.below (below_alloc (Below.refl _ _) _)⟩
        have HC2 : Aside0 (Bc W2 wr.heap.size s.size (F2 0)) := ⟨by rw [← hW2]; exact (bc_lit wr 5 _ s.size (fun j hj => made_get _ _ _ hj)).congr (fun j _ => by simp [F2])⟩
        clear hW2 HTr HBr HCa
        generalize wr.heap.size = gc at HN2 HN3 HG2 HC2 ⊢
        obtain ⟨wo, rfl⟩ : ∃ wo : World, wo = wr := ⟨_, rfl⟩
        go_loopw [58] (fun v58 wr => ∃ k : Int, 0 ≤ k ∧ k ≤ (s.size : Int) ∧ v58 = .int .i64 k ∧ Aside0 (Tab wr g) ∧ Aside0 (Below w.heap.size w wr) ∧ Aside0 (Bc wr gb s.size (F1 s s.size)) ∧ Aside0 (Bc wr gc s.size (F2 k.toNat))) (fun i _ => s.size - (intOf i).toNat)
        case atStart => exact ⟨0, by omega, by omega, rfl, HT2, HB2, HCb, HC2⟩
        case round =>
          obtain ⟨k, h0, h1, rfl, HTr, HBr, HCa, HCr⟩ := hrel
          clear HT2 HB2 HCb HC2
          by_cases c4 : k < (s.size : Int)
          · have c4b0 : decide (k < (s.size : Int)) = true := decide_eq_true c4
            have c5b0 : decide (0 ≤ k) = true := decide_eq_true h0
            have hx := HCr.out.cell (j := k.toNat) (by omega)
            have hf := HCr.out.frozen (j := k.toNat) (by omega)
            have HD := Aside0.mk (show ∀ j, (if j = k.toNat then k % 256 else F2 k.toNat j) = F2 (k + 1).toNat j from fun j => by obtain ⟨m, rfl⟩ := Int.eq_ofNat_of_zero_le h0; rw [show ((m : Int) + 1).toNat = m + 1 from by omega, Int.toNat_natCast]; exact F2_next _ _)
            go_wp2
            go_roundw
            case rel => exact ⟨k + 1, by omega, by omega, rfl, ⟨HTr.out.far HN2.out _⟩, ⟨below_set HBr.out HG2.out⟩, ⟨HCa.out.far HN3.out _⟩, ⟨(HCr.out.set (by omega) _).congr (fun j _ => HD.out j)⟩⟩
            case measure => simp [intOf]; omega
          · obtain rfl : k = (s.size : Int) := by omega
            have c4b0 : decide ((s.size : Int) < (s.size : Int)) = false := decide_eq_false c4
            clear c4 h0 h1
            have HCc : Aside0 (Bc wr gc s.size (F2 s.size)) := ⟨by have := HCr.out; rwa [Int.toNat_natCast] at this⟩
            clear HCr
            have hcu : ∀ m : Nat, (convert 44 9 (.slice (some ⟨gc, 0, none⟩) s.size s.size)).run Try.prog (wr.drewN m) = .ok (.string (strOfNums (listOf s.size (F2 s.size)))) (wr.drewN m) := fun m => Bc.string (c := s.size) Try.underlying44 Try.underlying5 Try.underlying9 (HCc.out.drewN m) (by omega)
            have hcb : ∀ m : Nat, (convert 44 9 (.slice (some ⟨gb, 0, none⟩) s.size s.size)).run Try.prog (wr.drewN m) = .ok (.string (strOfNums (listOf s.size (F1 s s.size)))) (wr.drewN m) := fun m => Bc.string (c := s.size) Try.underlying44 Try.underlying5 Try.underlying9 (HCa.out.drewN m) (by omega)
            obtain ⟨l1, l2, l3, l4, l5, l6, l7, yD⟩ := linear by_a s T s.size (by first | exact HS_.out | rfl) (by first | exact HT_.out | rfl)
            have zS : s.size ≤ 9223372036854775807 := by first | omega | (rw [HS_.out]; omega)
            have zS2 : s.size ≤ 140737488355328 := by first | omega | (rw [HS_.out]; omega)
            have zU : (strOfNums (listOf s.size (F2 s.size))).size ≤ 9223372036854775807 := by rw [nums_size, listOf_length]; omega
            have zB : (strOfNums (listOf s.size (F1 s s.size))).size ≤ 9223372036854775807 := by rw [nums_size, listOf_length]; omega
            have zC : (strOfNums (scaleL a s)).size ≤ 9223372036854775807 := by rw [l7]; omega
            clear HCa HCc HN1 HN2 HN3 HG1 HG2 HS_ HT_ HM2
            generalize strOfNums (listOf s.size (F2 s.size)) = U at hcu l2 l5 zU
            generalize strOfNums (listOf s.size (F1 s s.size)) = V at hcb l3 l5 zB
            go_wp2_with (first | (go_at_call 26; refine (gf_Dot.calls g _ _ _ ?dT ?dS).mono ?_; (case dT => repeat (first | exact HT3.out | exact HT2.out | exact HTr.out | exact HT.out | (with_reducible refine Tab.drewN ?_ _) | (with_reducible refine Tab.alloc ?_ _))); (case dS => first | exact zS | exact zU | exact zB | exact zC); rintro e w' ⟨rfl, nd, rfl⟩; (try first | exact ⟨rfl, _, World.drewN_drewN _ _ _⟩ | exact ⟨rfl, _, Eq.trans (World.drewN_drewN _ _ _) (congrArg (World.drewN _) (Nat.add_assoc _ _ _))⟩)) | (go_at_call 14; refine (gMul g _ _ _ ?mT ?m1 ?m2).mono ?_; (case mT => repeat (first | exact HT3.out | exact HT2.out | exact HTr.out | exact HT.out | (with_reducible refine Tab.drewN ?_ _) | (with_reducible refine Tab.alloc ?_ _))); (case m1 => exact by_a); (case m2 => exact yD); rintro e w' ⟨rfl, nd, rfl⟩; (try first | exact ⟨rfl, _, World.drewN_drewN _ _ _⟩ | exact ⟨rfl, _, Eq.trans (World.drewN_drewN _ _ _) (congrArg (World.drewN _) (Nat.add_assoc _ _ _))⟩)) | (go_at_call 16; refine (gf_Add.calls _ _ _ _ rfl).mono ?_; rintro e w' ⟨rfl, nd, rfl⟩; (try first | exact ⟨rfl, _, World.drewN_drewN _ _ _⟩ | exact ⟨rfl, _, Eq.trans (World.drewN_drewN _ _ _) (congrArg (World.drewN _) (Nat.add_assoc _ _ _))⟩)) | (go_at_call 28; refine (gf_Scale.calls g a _ _ ?sT by_a ?sS).mono ?_; (case sT => repeat (first | exact HT3.out | exact HT2.out | exact HTr.out | exact HT.out | (with_reducible refine Tab.drewN ?_ _) | (with_reducible refine Tab.alloc ?_ _))); (case sS => exact zS2); rintro e w2 ⟨rfl, hb2⟩; have HB3 := Aside0.mk (below_step (w := w) (show Below w.heap.size w _ from by repeat (first | exact HB3.out | exact HBr.out | refine pw_below_drewN ?_ _)) hb2); have HT3 := Aside0.mk (Tab.below (show Tab _ g from by repeat (first | exact HT3.out | exact HT2.out | exact HTr.out | exact HT.out | (with_reducible refine Tab.drewN ?_ _) | (with_reducible refine Tab.alloc ?_ _))) hb2); clear hb2))
            go_ret
            exact ⟨rfl, by repeat (first | exact HB3.out | refine pw_below_drewN ?_ _)⟩
end Go.Proofs.Ytcfkldbcmbgomaa.Al
