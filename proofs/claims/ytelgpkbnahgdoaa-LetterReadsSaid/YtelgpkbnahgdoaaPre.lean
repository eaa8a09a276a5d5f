/- What the laws stand on, in one text: functions of the program by their contracts, the plain mathematics behind them, and such of the printed words as these use. It began as the kit's print and own texts; put together by a program (trim.py). -/
import Derived.Test.YtelgpkbnahgdoaaPrd
namespace Go.Proofs.Ytelgpkbnahgdoaa.Al
open Go.RowKit Go.Proofs.YtelgpkbnahgdoaaW.PrintWords
theorem cfz9 {w : World} {g t : Nat} {c0 c1 c2 c3 c4 c5 c6 c7 c8 : Value} (h : w.heap[g]? = some (.cells #[c0, c1, c2, c3, c4, c5, c6, c7, c8] t (0, 0))) : w.cell? ⟨g, 0, none⟩ = some c0 ∧ w.frozen? ⟨g, 0, none⟩ = false ∧ w.cell? ⟨g, 1, none⟩ = some c1 ∧ w.frozen? ⟨g, 1, none⟩ = false ∧ w.cell? ⟨g, 2, none⟩ = some c2 ∧ w.frozen? ⟨g, 2, none⟩ = false ∧ w.cell? ⟨g, 3, none⟩ = some c3 ∧ w.frozen? ⟨g, 3, none⟩ = false ∧ w.cell? ⟨g, 4, none⟩ = some c4 ∧ w.frozen? ⟨g, 4, none⟩ = false ∧ w.cell? ⟨g, 5, none⟩ = some c5 ∧ w.frozen? ⟨g, 5, none⟩ = false ∧ w.cell? ⟨g, 6, none⟩ = some c6 ∧ w.frozen? ⟨g, 6, none⟩ = false ∧ w.cell? ⟨g, 7, none⟩ = some c7 ∧ w.frozen? ⟨g, 7, none⟩ = false ∧ w.cell? ⟨g, 8, none⟩ = some c8 ∧ w.frozen? ⟨g, 8, none⟩ = false := ⟨(blk_cell h 0).trans rfl, blk_frozen h 0, (blk_cell h 1).trans rfl, blk_frozen h 1, (blk_cell h 2).trans rfl, blk_frozen h 2, (blk_cell h 3).trans rfl, blk_frozen h 3, (blk_cell h 4).trans rfl, blk_frozen h 4, (blk_cell h 5).trans rfl, blk_frozen h 5, (blk_cell h 6).trans rfl, blk_frozen h 6, (blk_cell h 7).trans rfl, blk_frozen h 7, (blk_cell h 8).trans rfl, blk_frozen h 8⟩
end Go.Proofs.Ytelgpkbnahgdoaa.Al

namespace Go.Proofs.Ytelgpkbnahgdoaa.Al
open Go.RowKit Go.Proofs.YtelgpkbnahgdoaaW.PrintWords Go.Proofs.YtelgpkbnahgdoaaW.PrintLast Go.Proofs.YtelgpkbnahgdoaaW.PrintMore
attribute [local go_sem] max2_int min2_int max_two min_two max_three min_three max_four min_four   -- for this text's walks alone
set_option linter.unusedVariables false
set_option linter.unusedSimpArgs false
mutual
def corncribref07_Check.j0 : Nat → Bool → Int → Int → Int → Int → Int → Int → ByteArray → List ByteArray → List (S49) → Option (Int)
 |0, _, _, _, _, _, _, _, _, _, _ => none
 |k + 1, x37, x178000, x178001, x178002, x178003, x178004, x178005, x178006, x178007, x178008 => if x37 = true then (some 70) else (if (x178007.length : Int) = 1 then (if 0 < (x178007.length : Int) then ((corncribref07_Key.f (rdOf ByteArray.empty x178007 0)).bind fun t183 => (if t183 = true then (corncribref07_Check.j1 k ((x178008.length : Int) == 0) x178000 x178001 x178002 x178003 x178004 x178005 x178006 x178007 x178008) else (corncribref07_Check.j1 k false x178000 x178001 x178002 x178003 x178004 x178005 x178006 x178007 x178008))) else (none)) else (corncribref07_Check.j1 k false x178000 x178001 x178002 x178003 x178004 x178005 x178006 x178007 x178008))
def corncribref07_Check.j1 : Nat → Bool → Int → Int → Int → Int → Int → Int → ByteArray → List ByteArray → List (S49) → Option (Int)
 |0, _, _, _, _, _, _, _, _, _, _ => none
 |k + 1, x3, x178000, x178001, x178002, x178003, x178004, x178005, x178006, x178007, x178008 => if (x178007.length : Int) = 0 then (if (x178008.length : Int) = 0 then (corncribref07_Check.j2 k x3 (x178006.toList == ([] : List UInt8)) x178000 x178001 x178002 x178003 x178004 x178005 x178006 x178007 x178008) else (corncribref07_Check.j2 k x3 false x178000 x178001 x178002 x178003 x178004 x178005 x178006 x178007 x178008)) else (corncribref07_Check.j2 k x3 false x178000 x178001 x178002 x178003 x178004 x178005 x178006 x178007 x178008)
def corncribref07_Check.j2 : Nat → Bool → Bool → Int → Int → Int → Int → Int → Int → ByteArray → List ByteArray → List (S49) → Option (Int)
 |0, _, _, _, _, _, _, _, _, _, _, _ => none
 |k + 1, x3, x4, x178000, x178001, x178002, x178003, x178004, x178005, x178006, x178007, x178008 => if x178000 = 1 then (if x3 = true then (if x178006.toList = ([] : List UInt8) then (if x178005 = 0 then (some 0) else (some 70)) else (some 70)) else (some 70)) else (if x178000 = 2 then (if x3 = true then (if (x178006.size : Int) ≤ 2052 then (if x178006.toList = ([] : List UInt8) then (some 0) else (if x178005 = 1 then (some 0) else (some 70))) else (some 70)) else (some 70)) else (if x178000 = 3 then (if (x178007.length : Int) ≤ 16 then ((corncribref07_Rising.f k x178007).bind fun t184 => (if t184 = true then ((corncribref07_Writes.f k x178008).bind fun t185 => (if t185 = true then (if x178006.toList = ([] : List UInt8) then (if x178005 = 0 then (some 0) else (some 70)) else (some 70)) else (some 70))) else (some 70))) else (some 70)) else (if x178000 = 4 then (if x4 = true then (if x178005 ≤ 1 then (some 0) else (some 70)) else (some 70)) else (if x178000 = 5 then (corncribref07_Check.j3 k x4 x178000 (x178000 == 5) x178000 x178001 x178002 x178003 x178004 x178005 x178006 x178007 x178008) else (if x178000 = 6 then (corncribref07_Check.j3 k x4 x178000 (x178000 == 6) x178000 x178001 x178002 x178003 x178004 x178005 x178006 x178007 x178008) else (corncribref07_Check.j3 k x4 x178000 (x178000 == 7) x178000 x178001 x178002 x178003 x178004 x178005 x178006 x178007 x178008))))))
def corncribref07_Check.j3 : Nat → Bool → Int → Bool → Int → Int → Int → Int → Int → Int → ByteArray → List ByteArray → List (S49) → Option (Int)
 |0, _, _, _, _, _, _, _, _, _, _, _, _ => none
 |k + 1, x4, x71, x138, x178000, x178001, x178002, x178003, x178004, x178005, x178006, x178007, x178008 => if x138 = true then (if x4 = true then (if x178005 = 0 then (some 0) else (some 70)) else (some 70)) else (if x71 = 8 then (if x4 = true then (if x178005 ≤ 2 then (some 0) else (some 70)) else (some 70)) else (some 70))
end
def corncribref07_Check.f (k : Nat) (a0_0 : Int) (a0_1 : Int) (a0_2 : Int) (a0_3 : Int) (a0_4 : Int) (a0_5 : Int) (a0_6 : ByteArray) (l0_7 : List ByteArray) (l0_8 : List (S49)) : Option (Int) := (corncribref07_Address.f a0_1).bind fun t178 => (if t178 = true then ((corncribref07_Address.f a0_2).bind fun t179 => (if t179 = true then ((corncribref07_Txn.f a0_3).bind fun t180 => (if t180 = true then ((corncribref07_Stamp.f a0_4).bind fun t181 => (if t181 = true then (if a0_5 < 0 then (corncribref07_Check.j0 k true a0_0 a0_1 a0_2 a0_3 a0_4 a0_5 a0_6 l0_7 l0_8) else (corncribref07_Check.j0 k (decide (a0_5 > 4)) a0_0 a0_1 a0_2 a0_3 a0_4 a0_5 a0_6 l0_7 l0_8)) else (corncribref07_Check.j0 k true a0_0 a0_1 a0_2 a0_3 a0_4 a0_5 a0_6 l0_7 l0_8))) else (corncribref07_Check.j0 k true a0_0 a0_1 a0_2 a0_3 a0_4 a0_5 a0_6 l0_7 l0_8))) else (corncribref07_Check.j0 k true a0_0 a0_1 a0_2 a0_3 a0_4 a0_5 a0_6 l0_7 l0_8))) else (corncribref07_Check.j0 k true a0_0 a0_1 a0_2 a0_3 a0_4 a0_5 a0_6 l0_7 l0_8))
theorem corncribref07_Check.mono_l : ∀ k, (∀ y0 y1 y2 y3 y4 y5 y6 y7 y8 y9, LeO (corncribref07_Check.j0 k y0 y1 y2 y3 y4 y5 y6 y7 y8 y9) (corncribref07_Check.j0 (k + 1) y0 y1 y2 y3 y4 y5 y6 y7 y8 y9)) ∧ (∀ y0 y1 y2 y3 y4 y5 y6 y7 y8 y9, LeO (corncribref07_Check.j1 k y0 y1 y2 y3 y4 y5 y6 y7 y8 y9) (corncribref07_Check.j1 (k + 1) y0 y1 y2 y3 y4 y5 y6 y7 y8 y9)) ∧ (∀ y0 y1 y2 y3 y4 y5 y6 y7 y8 y9 y10, LeO (corncribref07_Check.j2 k y0 y1 y2 y3 y4 y5 y6 y7 y8 y9 y10) (corncribref07_Check.j2 (k + 1) y0 y1 y2 y3 y4 y5 y6 y7 y8 y9 y10)) ∧ (∀ y0 y1 y2 y3 y4 y5 y6 y7 y8 y9 y10 y11, LeO (corncribref07_Check.j3 k y0 y1 y2 y3 y4 y5 y6 y7 y8 y9 y10 y11) (corncribref07_Check.j3 (k + 1) y0 y1 y2 y3 y4 y5 y6 y7 y8 y9 y10 y11))
 |0 => ⟨fun _ _ _ _ _ _ _ _ _ _ r h => by simp [corncribref07_Check.j0] at h, fun _ _ _ _ _ _ _ _ _ _ r h => by simp [corncribref07_Check.j1] at h, fun _ _ _ _ _ _ _ _ _ _ _ r h => by simp [corncribref07_Check.j2] at h, fun _ _ _ _ _ _ _ _ _ _ _ _ r h => by simp [corncribref07_Check.j3] at h⟩
 |k + 1 => by
  obtain ⟨ih0, ih1, ih2, ih3⟩ := corncribref07_Check.mono_l k
  refine ⟨?_, ?_, ?_, ?_⟩
  ·intro y0 y1 y2 y3 y4 y5 y6 y7 y8 y9
   unfold corncribref07_Check.j0
   repeat' first
   |(with_reducible exact ih0 _ _ _ _ _ _ _ _ _ _)
   |(with_reducible exact ih1 _ _ _ _ _ _ _ _ _ _)
   |(with_reducible exact ih2 _ _ _ _ _ _ _ _ _ _ _)
   |(with_reducible exact ih3 _ _ _ _ _ _ _ _ _ _ _ _)
   |(with_reducible exact corncribref07_Rising.mono _ _)
   |(with_reducible exact corncribref07_Writes.mono _ _)
   |(with_reducible exact LeO.refl _)
   |(with_reducible exact LeO.none _)
   |(with_reducible refine LeO.ite ?_ ?_)
   |(with_reducible refine LeO.bind ?_ (fun _ => ?_))
   |exact ih0 _ _ _ _ _ _ _ _ _ _
   |exact ih1 _ _ _ _ _ _ _ _ _ _
   |exact ih2 _ _ _ _ _ _ _ _ _ _ _
   |exact ih3 _ _ _ _ _ _ _ _ _ _ _ _
   |exact corncribref07_Rising.mono _ _
   |exact corncribref07_Writes.mono _ _
   |exact LeO.none _
   |refine LeO.ite ?_ ?_
   |refine LeO.bind ?_ (fun _ => ?_)
  ·intro y0 y1 y2 y3 y4 y5 y6 y7 y8 y9
   unfold corncribref07_Check.j1
   repeat' first
   |(with_reducible exact ih0 _ _ _ _ _ _ _ _ _ _)
   |(with_reducible exact ih1 _ _ _ _ _ _ _ _ _ _)
   |(with_reducible exact ih2 _ _ _ _ _ _ _ _ _ _ _)
   |(with_reducible exact ih3 _ _ _ _ _ _ _ _ _ _ _ _)
   |(with_reducible exact corncribref07_Rising.mono _ _)
   |(with_reducible exact corncribref07_Writes.mono _ _)
   |(with_reducible exact LeO.refl _)
   |(with_reducible exact LeO.none _)
   |(with_reducible refine LeO.ite ?_ ?_)
   |(with_reducible refine LeO.bind ?_ (fun _ => ?_))
   |exact ih0 _ _ _ _ _ _ _ _ _ _
   |exact ih1 _ _ _ _ _ _ _ _ _ _
   |exact ih2 _ _ _ _ _ _ _ _ _ _ _
   |exact ih3 _ _ _ _ _ _ _ _ _ _ _ _
   |exact corncribref07_Rising.mono _ _
   |exact corncribref07_Writes.mono _ _
   |exact LeO.none _
   |refine LeO.ite ?_ ?_
   |refine LeO.bind ?_ (fun _ => ?_)
  ·intro y0 y1 y2 y3 y4 y5 y6 y7 y8 y9 y10
   unfold corncribref07_Check.j2
   repeat' first
   |(with_reducible exact ih0 _ _ _ _ _ _ _ _ _ _)
   |(with_reducible exact ih1 _ _ _ _ _ _ _ _ _ _)
   |(with_reducible exact ih2 _ _ _ _ _ _ _ _ _ _ _)
   |(with_reducible exact ih3 _ _ _ _ _ _ _ _ _ _ _ _)
   |(with_reducible exact corncribref07_Rising.mono _ _)
   |(with_reducible exact corncribref07_Writes.mono _ _)
   |(with_reducible exact LeO.refl _)
   |(with_reducible exact LeO.none _)
   |(with_reducible refine LeO.ite ?_ ?_)
   |(with_reducible refine LeO.bind ?_ (fun _ => ?_))
   |exact ih0 _ _ _ _ _ _ _ _ _ _
   |exact ih1 _ _ _ _ _ _ _ _ _ _
   |exact ih2 _ _ _ _ _ _ _ _ _ _ _
   |exact ih3 _ _ _ _ _ _ _ _ _ _ _ _
   |exact corncribref07_Rising.mono _ _
   |exact corncribref07_Writes.mono _ _
   |exact LeO.none _
   |refine LeO.ite ?_ ?_
   |refine LeO.bind ?_ (fun _ => ?_)
  ·intro y0 y1 y2 y3 y4 y5 y6 y7 y8 y9 y10 y11
   unfold corncribref07_Check.j3
   repeat' first
   |(with_reducible exact ih0 _ _ _ _ _ _ _ _ _ _)
   |(with_reducible exact ih1 _ _ _ _ _ _ _ _ _ _)
   |(with_reducible exact ih2 _ _ _ _ _ _ _ _ _ _ _)
   |(with_reducible exact ih3 _ _ _ _ _ _ _ _ _ _ _ _)
   |(with_reducible exact corncribref07_Rising.mono _ _)
   |(with_reducible exact corncribref07_Writes.mono _ _)
   |(with_reducible exact LeO.refl _)
   |(with_reducible exact LeO.none _)
   |(with_reducible refine LeO.ite ?_ ?_)
   |(with_reducible refine LeO.bind ?_ (fun _ => ?_))
   |exact ih0 _ _ _ _ _ _ _ _ _ _
   |exact ih1 _ _ _ _ _ _ _ _ _ _
   |exact ih2 _ _ _ _ _ _ _ _ _ _ _
   |exact ih3 _ _ _ _ _ _ _ _ _ _ _ _
   |exact corncribref07_Rising.mono _ _
   |exact corncribref07_Writes.mono _ _
   |exact LeO.none _
   |refine LeO.ite ?_ ?_
   |refine LeO.bind ?_ (fun _ => ?_)
theorem corncribref07_Check.mono : ∀ a0 a1 a2 a3 a4 a5 a6 a7 a8 k, LeO (corncribref07_Check.f k a0 a1 a2 a3 a4 a5 a6 a7 a8) (corncribref07_Check.f (k + 1) a0 a1 a2 a3 a4 a5 a6 a7 a8) := by
 intro a0 a1 a2 a3 a4 a5 a6 a7 a8 k
 obtain ⟨ih0, ih1, ih2, ih3⟩ := corncribref07_Check.mono_l k
 unfold corncribref07_Check.f
 repeat' first
   |(with_reducible exact ih0 _ _ _ _ _ _ _ _ _ _)
   |(with_reducible exact ih1 _ _ _ _ _ _ _ _ _ _)
   |(with_reducible exact ih2 _ _ _ _ _ _ _ _ _ _ _)
   |(with_reducible exact ih3 _ _ _ _ _ _ _ _ _ _ _ _)
   |(with_reducible exact corncribref07_Rising.mono _ _)
   |(with_reducible exact corncribref07_Writes.mono _ _)
   |(with_reducible exact LeO.refl _)
   |(with_reducible exact LeO.none _)
   |(with_reducible refine LeO.ite ?_ ?_)
   |(with_reducible refine LeO.bind ?_ (fun _ => ?_))
   |exact ih0 _ _ _ _ _ _ _ _ _ _
   |exact ih1 _ _ _ _ _ _ _ _ _ _
   |exact ih2 _ _ _ _ _ _ _ _ _ _ _
   |exact ih3 _ _ _ _ _ _ _ _ _ _ _ _
   |exact corncribref07_Rising.mono _ _
   |exact corncribref07_Writes.mono _ _
   |exact LeO.none _
   |refine LeO.ite ?_ ?_
   |refine LeO.bind ?_ (fun _ => ?_)
set_option maxHeartbeats 8000000 in
set_option maxRecDepth 100000 in
theorem corncribref07_Check.calls (k : Nat) (a0_0 : Int) (a0_1 : Int) (a0_2 : Int) (a0_3 : Int) (a0_4 : Int) (a0_5 : Int) (a0_6 : ByteArray) (A0_7 : Option Addr) (c0_7 : Nat) (l0_7 : List ByteArray) (A0_8 : Option Addr) (c0_8 : Nat) (l0_8 : List (S49)) (r : Int) (w : World) (hr0_7 : Kd.C Kd.string w A0_7 l0_7.length l0_7) (hc0_7 : l0_7.length ≤ c0_7) (hr0_8 : Kd.C k49 w A0_8 l0_8.length l0_8) (hc0_8 : l0_8.length ≤ c0_8) (h : corncribref07_Check.f k a0_0 a0_1 a0_2 a0_3 a0_4 a0_5 a0_6 l0_7 l0_8 = some r) :
  Calls Try.prog 14 #[.agg #[.int .i64 a0_0, .int .i64 a0_1, .int .i64 a0_2, .int .i64 a0_3, .int .i64 a0_4, .int .i64 a0_5, .string a0_6, .slice A0_7 l0_7.length c0_7, .slice A0_8 l0_8.length c0_8]] w fun e w' => e = .returned (.int .i64 r) ∧ Below w.heap.size w w' := by
 have hu25 := Try.underlying25
 have HR0_7 := Aside0.mk hr0_7
 have HC0_7 := Aside0.mk hc0_7
 clear hr0_7 hc0_7
 have HR0_8 := Aside0.mk hr0_8
 have HC0_8 := Aside0.mk hc0_8
 clear hr0_8 hc0_8
 have HB := Aside0.mk (Below.refl w.heap.size w)
 have H : ((corncribref07_Address.f a0_1).bind fun t178 => (if t178 = true then ((corncribref07_Address.f a0_2).bind fun t179 => (if t179 = true then ((corncribref07_Txn.f a0_3).bind fun t180 => (if t180 = true then ((corncribref07_Stamp.f a0_4).bind fun t181 => (if t181 = true then (if a0_5 < 0 then (corncribref07_Check.j0 k true a0_0 a0_1 a0_2 a0_3 a0_4 a0_5 a0_6 l0_7 l0_8) else (corncribref07_Check.j0 k (decide (a0_5 > 4)) a0_0 a0_1 a0_2 a0_3 a0_4 a0_5 a0_6 l0_7 l0_8)) else (corncribref07_Check.j0 k true a0_0 a0_1 a0_2 a0_3 a0_4 a0_5 a0_6 l0_7 l0_8))) else (corncribref07_Check.j0 k true a0_0 a0_1 a0_2 a0_3 a0_4 a0_5 a0_6 l0_7 l0_8))) else (corncribref07_Check.j0 k true a0_0 a0_1 a0_2 a0_3 a0_4 a0_5 a0_6 l0_7 l0_8))) else (corncribref07_Check.j0 k true a0_0 a0_1 a0_2 a0_3 a0_4 a0_5 a0_6 l0_7 l0_8))) = some r := h
 clear h
 have HC2 := Aside0.mk H
 clear H
 go_enter Try.func14, Try.ntmps14
 go_upto_region 1 with (first | ((with_reducible refine gate_dst (N := 1) rfl ?_); (try (refine gate_guard (by rfl) ?_; dsimp only)); refine box_event ?hg (N := 1) ?hd (cs := #[.int .i64 a0_0, .int .i64 a0_1, .int .i64 a0_2, .int .i64 a0_3, .int .i64 a0_4, .int .i64 a0_5, .string a0_6, .slice A0_7 l0_7.length c0_7, .slice A0_8 l0_8.length c0_8]) (t := 25) ?hr ?_; (case hd => rfl); (case hg => rfl); (case hr => first | (go_simp; done) | (go_simp; rfl)); intro gb177 hg w3 hbox hb; have n0_ := Aside0.mk (below_step (by repeat (first | (with_reducible first | exact HB.out | apply below_alloc | apply pw_below_drewN | apply below_drew1) | exact HB.out)) hb); have n1_ := Aside0.mk (hbox); have n2_ := Aside0.mk ((by rw [hg]; exact (below_size (by repeat (first | (with_reducible first | exact HB.out | apply below_alloc | apply pw_below_drewN | apply below_drew1) | exact HB.out))) : w.heap.size ≤ gb177)); have n3_ := Aside0.mk ((by rw [hg]; exact (below_size (by repeat (first | (with_reducible first | exact HB.out | apply below_alloc | apply pw_below_drewN | apply below_drew1) | exact HB.out))) : w.heap.size ≤ gb177)); clear HB; have HB := n0_; have BK177 := n1_; have GW177 := n2_; have GE177 := n3_; clear n0_ n1_ n2_ n3_; clear hb hbox hg))
 (try simp only [Act.put, List.setIfInBounds_toArray, List.set_cons_zero, List.set_cons_succ])
 go_cut [37] (fun v37 wc => ∃ (kq : Nat) (x37_1 : Bool), v37 = .bool x37_1 ∧ Aside0 (corncribref07_Check.j0 kq x37_1 a0_0 a0_1 a0_2 a0_3 a0_4 a0_5 a0_6 l0_7 l0_8 = some r) ∧ Aside0 (kq ≤ k) ∧ Aside0 (wc.heap[gb177]? = some (.cells #[.int .i64 a0_0, .int .i64 a0_1, .int .i64 a0_2, .int .i64 a0_3, .int .i64 a0_4, .int .i64 a0_5, .string a0_6, (.slice A0_7 l0_7.length c0_7), (.slice A0_8 l0_8.length c0_8)] 25 (0, 0))) ∧ Aside0 (Below w.heap.size w wc))
 case first =>
  have H := HC2.out
  clear HC2
  replace H := Option.bind_eq_some_iff.mp H
  obtain ⟨t178, A40, H⟩ := H
  replace H : (if t178 = true then ((corncribref07_Address.f a0_2).bind fun t179 => (if t179 = true then ((corncribref07_Txn.f a0_3).bind fun t180 => (if t180 = true then ((corncribref07_Stamp.f a0_4).bind fun t181 => (if t181 = true then (if a0_5 < 0 then (corncribref07_Check.j0 k true a0_0 a0_1 a0_2 a0_3 a0_4 a0_5 a0_6 l0_7 l0_8) else (corncribref07_Check.j0 k (decide (a0_5 > 4)) a0_0 a0_1 a0_2 a0_3 a0_4 a0_5 a0_6 l0_7 l0_8)) else (corncribref07_Check.j0 k true a0_0 a0_1 a0_2 a0_3 a0_4 a0_5 a0_6 l0_7 l0_8))) else (corncribref07_Check.j0 k true a0_0 a0_1 a0_2 a0_3 a0_4 a0_5 a0_6 l0_7 l0_8))) else (corncribref07_Check.j0 k true a0_0 a0_1 a0_2 a0_3 a0_4 a0_5 a0_6 l0_7 l0_8))) else (corncribref07_Check.j0 k true a0_0 a0_1 a0_2 a0_3 a0_4 a0_5 a0_6 l0_7 l0_8)) = some r := H
  have A4 := Aside0.mk A40
  clear A40
  by_cases c5 : t178 = true
  ·subst c5
   have H1 : ((corncribref07_Address.f a0_2).bind fun t179 => (if t179 = true then ((corncribref07_Txn.f a0_3).bind fun t180 => (if t180 = true then ((corncribref07_Stamp.f a0_4).bind fun t181 => (if t181 = true then (if a0_5 < 0 then (corncribref07_Check.j0 k true a0_0 a0_1 a0_2 a0_3 a0_4 a0_5 a0_6 l0_7 l0_8) else (corncribref07_Check.j0 k (decide (a0_5 > 4)) a0_0 a0_1 a0_2 a0_3 a0_4 a0_5 a0_6 l0_7 l0_8)) else (corncribref07_Check.j0 k true a0_0 a0_1 a0_2 a0_3 a0_4 a0_5 a0_6 l0_7 l0_8))) else (corncribref07_Check.j0 k true a0_0 a0_1 a0_2 a0_3 a0_4 a0_5 a0_6 l0_7 l0_8))) else (corncribref07_Check.j0 k true a0_0 a0_1 a0_2 a0_3 a0_4 a0_5 a0_6 l0_7 l0_8))) = some r := by rw [if_pos rfl] at H; exact H
   clear H
   have H := H1
   clear H1
   replace H := Option.bind_eq_some_iff.mp H
   obtain ⟨t179, A60, H⟩ := H
   replace H : (if t179 = true then ((corncribref07_Txn.f a0_3).bind fun t180 => (if t180 = true then ((corncribref07_Stamp.f a0_4).bind fun t181 => (if t181 = true then (if a0_5 < 0 then (corncribref07_Check.j0 k true a0_0 a0_1 a0_2 a0_3 a0_4 a0_5 a0_6 l0_7 l0_8) else (corncribref07_Check.j0 k (decide (a0_5 > 4)) a0_0 a0_1 a0_2 a0_3 a0_4 a0_5 a0_6 l0_7 l0_8)) else (corncribref07_Check.j0 k true a0_0 a0_1 a0_2 a0_3 a0_4 a0_5 a0_6 l0_7 l0_8))) else (corncribref07_Check.j0 k true a0_0 a0_1 a0_2 a0_3 a0_4 a0_5 a0_6 l0_7 l0_8))) else (corncribref07_Check.j0 k true a0_0 a0_1 a0_2 a0_3 a0_4 a0_5 a0_6 l0_7 l0_8)) = some r := H
   have A6 := Aside0.mk A60
   clear A60
   by_cases c7 : t179 = true
   ·subst c7
    have H1 : ((corncribref07_Txn.f a0_3).bind fun t180 => (if t180 = true then ((corncribref07_Stamp.f a0_4).bind fun t181 => (if t181 = true then (if a0_5 < 0 then (corncribref07_Check.j0 k true a0_0 a0_1 a0_2 a0_3 a0_4 a0_5 a0_6 l0_7 l0_8) else (corncribref07_Check.j0 k (decide (a0_5 > 4)) a0_0 a0_1 a0_2 a0_3 a0_4 a0_5 a0_6 l0_7 l0_8)) else (corncribref07_Check.j0 k true a0_0 a0_1 a0_2 a0_3 a0_4 a0_5 a0_6 l0_7 l0_8))) else (corncribref07_Check.j0 k true a0_0 a0_1 a0_2 a0_3 a0_4 a0_5 a0_6 l0_7 l0_8))) = some r := by rw [if_pos rfl] at H; exact H
    clear H
    have H := H1
    clear H1
    replace H := Option.bind_eq_some_iff.mp H
    obtain ⟨t180, A80, H⟩ := H
    replace H : (if t180 = true then ((corncribref07_Stamp.f a0_4).bind fun t181 => (if t181 = true then (if a0_5 < 0 then (corncribref07_Check.j0 k true a0_0 a0_1 a0_2 a0_3 a0_4 a0_5 a0_6 l0_7 l0_8) else (corncribref07_Check.j0 k (decide (a0_5 > 4)) a0_0 a0_1 a0_2 a0_3 a0_4 a0_5 a0_6 l0_7 l0_8)) else (corncribref07_Check.j0 k true a0_0 a0_1 a0_2 a0_3 a0_4 a0_5 a0_6 l0_7 l0_8))) else (corncribref07_Check.j0 k true a0_0 a0_1 a0_2 a0_3 a0_4 a0_5 a0_6 l0_7 l0_8)) = some r := H
    have A8 := Aside0.mk A80
    clear A80
    by_cases c9 : t180 = true
    ·subst c9
     have H1 : ((corncribref07_Stamp.f a0_4).bind fun t181 => (if t181 = true then (if a0_5 < 0 then (corncribref07_Check.j0 k true a0_0 a0_1 a0_2 a0_3 a0_4 a0_5 a0_6 l0_7 l0_8) else (corncribref07_Check.j0 k (decide (a0_5 > 4)) a0_0 a0_1 a0_2 a0_3 a0_4 a0_5 a0_6 l0_7 l0_8)) else (corncribref07_Check.j0 k true a0_0 a0_1 a0_2 a0_3 a0_4 a0_5 a0_6 l0_7 l0_8))) = some r := by rw [if_pos rfl] at H; exact H
     clear H
     have H := H1
     clear H1
     replace H := Option.bind_eq_some_iff.mp H
     obtain ⟨t181, A100, H⟩ := H
     replace H : (if t181 = true then (if a0_5 < 0 then (corncribref07_Check.j0 k true a0_0 a0_1 a0_2 a0_3 a0_4 a0_5 a0_6 l0_7 l0_8) else (corncribref07_Check.j0 k (decide (a0_5 > 4)) a0_0 a0_1 a0_2 a0_3 a0_4 a0_5 a0_6 l0_7 l0_8)) else (corncribref07_Check.j0 k true a0_0 a0_1 a0_2 a0_3 a0_4 a0_5 a0_6 l0_7 l0_8)) = some r := H
     have A10 := Aside0.mk A100
     clear A100
     by_cases c11 : t181 = true
     ·subst c11
      have H1 : (if a0_5 < 0 then (corncribref07_Check.j0 k true a0_0 a0_1 a0_2 a0_3 a0_4 a0_5 a0_6 l0_7 l0_8) else (corncribref07_Check.j0 k (decide (a0_5 > 4)) a0_0 a0_1 a0_2 a0_3 a0_4 a0_5 a0_6 l0_7 l0_8)) = some r := by rw [if_pos rfl] at H; exact H
      clear H
      have H := H1
      clear H1
      by_cases c12 : a0_5 < 0
      ·rw [if_pos c12] at H
       have c12b0 : decide (a0_5 < 0) = true := decide_eq_true c12
       clear c12
       (first | rw [c12b0] | (simp only [i64_w, i32_w]; rw [c12b0]) | skip)
       have H' := Aside0.mk H
       clear H
       obtain ⟨hcz13_0, hfz13_0, hcz13_1, hfz13_1, hcz13_2, hfz13_2, hcz13_3, hfz13_3, hcz13_4, hfz13_4, hcz13_5, hfz13_5, hcz13_6, hfz13_6, hcz13_7, hfz13_7, hcz13_8, hfz13_8⟩ := cfz9 BK177.out
       go_wp2_with (first | ((with_reducible refine gate_callee (f := 30) rfl ?_); refine goesL_ (some 8) rfl rfl Try.func30 (by kernel_rfl) rfl #[.int .i64 a0_1] rfl (by (try simp only [List.map_toArray, List.map_cons, List.map_nil]); first | done | rfl | (simp only [List.length_drop, List.length_take]; rfl)) ?_; (with_reducible refine (corncribref07_Address.calls a0_1 true _ A4.out).mono ?_); rintro e w' ⟨rfl, ⟨nd, rfl⟩⟩; refine ⟨_, rfl, ?_⟩) | (go_at_call 30; (with_reducible refine (corncribref07_Address.calls a0_2 true _ A6.out).mono ?_); rintro e w' ⟨rfl, ⟨nd, rfl⟩⟩) | (go_at_call 31; (with_reducible refine (corncribref07_Txn.calls a0_3 true _ A8.out).mono ?_); rintro e w' ⟨rfl, ⟨nd, rfl⟩⟩) | (go_at_call 32; (with_reducible refine (corncribref07_Stamp.calls a0_4 true _ A10.out).mono ?_); rintro e w' ⟨rfl, ⟨nd, rfl⟩⟩))
       go_meet
       case rel => exact ⟨_, (true), (by first | rfl | (simp; done) | (simp [*]; done) | (simp [bne_nil_]; done)), H', ⟨by first | omega | exact Nat.le_refl _⟩, ⟨by (with_reducible repeat (first | refine blk_drewN ?_ _ | refine blk_drew ?_ | refine blk_alloc ?_ _)); exact BK177.out⟩, ⟨by repeat (first | (with_reducible first | exact HB.out | apply below_alloc | apply pw_below_drewN | apply below_drew1 | refine below_set ?_ GE177.out) | exact HB.out)⟩⟩
      ·rw [if_neg c12] at H
       have c12b0 : decide (a0_5 < 0) = false := decide_eq_false c12
       clear c12
       (first | rw [c12b0] | (simp only [i64_w, i32_w]; rw [c12b0]) | skip)
       have H' := Aside0.mk H
       clear H
       obtain ⟨hcz14_0, hfz14_0, hcz14_1, hfz14_1, hcz14_2, hfz14_2, hcz14_3, hfz14_3, hcz14_4, hfz14_4, hcz14_5, hfz14_5, hcz14_6, hfz14_6, hcz14_7, hfz14_7, hcz14_8, hfz14_8⟩ := cfz9 BK177.out
       go_wp2_with (first | ((with_reducible refine gate_callee (f := 30) rfl ?_); refine goesL_ (some 8) rfl rfl Try.func30 (by kernel_rfl) rfl #[.int .i64 a0_1] rfl (by (try simp only [List.map_toArray, List.map_cons, List.map_nil]); first | done | rfl | (simp only [List.length_drop, List.length_take]; rfl)) ?_; (with_reducible refine (corncribref07_Address.calls a0_1 true _ A4.out).mono ?_); rintro e w' ⟨rfl, ⟨nd, rfl⟩⟩; refine ⟨_, rfl, ?_⟩) | (go_at_call 30; (with_reducible refine (corncribref07_Address.calls a0_2 true _ A6.out).mono ?_); rintro e w' ⟨rfl, ⟨nd, rfl⟩⟩) | (go_at_call 31; (with_reducible refine (corncribref07_Txn.calls a0_3 true _ A8.out).mono ?_); rintro e w' ⟨rfl, ⟨nd, rfl⟩⟩) | (go_at_call 32; (with_reducible refine (corncribref07_Stamp.calls a0_4 true _ A10.out).mono ?_); rintro e w' ⟨rfl, ⟨nd, rfl⟩⟩))
       go_meet
       case rel => exact ⟨_, (decide (a0_5 > 4)), (by first | rfl | (simp; done) | (simp [*]; done) | (simp [bne_nil_]; done)), H', ⟨by first | omega | exact Nat.le_refl _⟩, ⟨by (with_reducible repeat (first | refine blk_drewN ?_ _ | refine blk_drew ?_ | refine blk_alloc ?_ _)); exact BK177.out⟩, ⟨by repeat (first | (with_reducible first | exact HB.out | apply below_alloc | apply pw_below_drewN | apply below_drew1 | refine below_set ?_ GE177.out) | exact HB.out)⟩⟩
     ·replace c11 := Bool.eq_false_iff.mpr c11
      subst c11
      have H1 : (corncribref07_Check.j0 k true a0_0 a0_1 a0_2 a0_3 a0_4 a0_5 a0_6 l0_7 l0_8) = some r := by rw [if_neg (show ¬ (false = true) by decide)] at H; exact H
      clear H
      have H := H1
      clear H1
      have H' := Aside0.mk H
      clear H
      obtain ⟨hcz15_0, hfz15_0, hcz15_1, hfz15_1, hcz15_2, hfz15_2, hcz15_3, hfz15_3, hcz15_4, hfz15_4, hcz15_5, hfz15_5, hcz15_6, hfz15_6, hcz15_7, hfz15_7, hcz15_8, hfz15_8⟩ := cfz9 BK177.out
      go_wp2_with (first | ((with_reducible refine gate_callee (f := 30) rfl ?_); refine goesL_ (some 8) rfl rfl Try.func30 (by kernel_rfl) rfl #[.int .i64 a0_1] rfl (by (try simp only [List.map_toArray, List.map_cons, List.map_nil]); first | done | rfl | (simp only [List.length_drop, List.length_take]; rfl)) ?_; (with_reducible refine (corncribref07_Address.calls a0_1 true _ A4.out).mono ?_); rintro e w' ⟨rfl, ⟨nd, rfl⟩⟩; refine ⟨_, rfl, ?_⟩) | (go_at_call 30; (with_reducible refine (corncribref07_Address.calls a0_2 true _ A6.out).mono ?_); rintro e w' ⟨rfl, ⟨nd, rfl⟩⟩) | (go_at_call 31; (with_reducible refine (corncribref07_Txn.calls a0_3 true _ A8.out).mono ?_); rintro e w' ⟨rfl, ⟨nd, rfl⟩⟩) | (go_at_call 32; (with_reducible refine (corncribref07_Stamp.calls a0_4 false _ A10.out).mono ?_); rintro e w' ⟨rfl, ⟨nd, rfl⟩⟩))
      go_meet
      case rel => exact ⟨_, (true), (by first | rfl | (simp; done) | (simp [*]; done) | (simp [bne_nil_]; done)), H', ⟨by first | omega | exact Nat.le_refl _⟩, ⟨by (with_reducible repeat (first | refine blk_drewN ?_ _ | refine blk_drew ?_ | refine blk_alloc ?_ _)); exact BK177.out⟩, ⟨by repeat (first | (with_reducible first | exact HB.out | apply below_alloc | apply pw_below_drewN | apply below_drew1 | refine below_set ?_ GE177.out) | exact HB.out)⟩⟩
    ·replace c9 := Bool.eq_false_iff.mpr c9
     subst c9
     have H1 : (corncribref07_Check.j0 k true a0_0 a0_1 a0_2 a0_3 a0_4 a0_5 a0_6 l0_7 l0_8) = some r := by rw [if_neg (show ¬ (false = true) by decide)] at H; exact H
     clear H
     have H := H1
     clear H1
     have H' := Aside0.mk H
     clear H
     obtain ⟨hcz16_0, hfz16_0, hcz16_1, hfz16_1, hcz16_2, hfz16_2, hcz16_3, hfz16_3, hcz16_4, hfz16_4, hcz16_5, hfz16_5, hcz16_6, hfz16_6, hcz16_7, hfz16_7, hcz16_8, hfz16_8⟩ := cfz9 BK177.out
     go_wp2_with (first | ((with_reducible refine gate_callee (f := 30) rfl ?_); refine goesL_ (some 8) rfl rfl Try.func30 (by kernel_rfl) rfl #[.int .i64 a0_1] rfl (by (try simp only [List.map_toArray, List.map_cons, List.map_nil]); first | done | rfl | (simp only [List.length_drop, List.length_take]; rfl)) ?_; (with_reducible refine (corncribref07_Address.calls a0_1 true _ A4.out).mono ?_); rintro e w' ⟨rfl, ⟨nd, rfl⟩⟩; refine ⟨_, rfl, ?_⟩) | (go_at_call 30; (with_reducible refine (corncribref07_Address.calls a0_2 true _ A6.out).mono ?_); rintro e w' ⟨rfl, ⟨nd, rfl⟩⟩) | (go_at_call 31; (with_reducible refine (corncribref07_Txn.calls a0_3 false _ A8.out).mono ?_); rintro e w' ⟨rfl, ⟨nd, rfl⟩⟩))
     go_meet
     case rel => exact ⟨_, (true), (by first | rfl | (simp; done) | (simp [*]; done) | (simp [bne_nil_]; done)), H', ⟨by first | omega | exact Nat.le_refl _⟩, ⟨by (with_reducible repeat (first | refine blk_drewN ?_ _ | refine blk_drew ?_ | refine blk_alloc ?_ _)); exact BK177.out⟩, ⟨by repeat (first | (with_reducible first | exact HB.out | apply below_alloc | apply pw_below_drewN | apply below_drew1 | refine below_set ?_ GE177.out) | exact HB.out)⟩⟩
   ·replace c7 := Bool.eq_false_iff.mpr c7
    subst c7
    have H1 : (corncribref07_Check.j0 k true a0_0 a0_1 a0_2 a0_3 a0_4 a0_5 a0_6 l0_7 l0_8) = some r := by rw [if_neg (show ¬ (false = true) by decide)] at H; exact H
    clear H
    have H := H1
    clear H1
    have H' := Aside0.mk H
    clear H
    obtain ⟨hcz17_0, hfz17_0, hcz17_1, hfz17_1, hcz17_2, hfz17_2, hcz17_3, hfz17_3, hcz17_4, hfz17_4, hcz17_5, hfz17_5, hcz17_6, hfz17_6, hcz17_7, hfz17_7, hcz17_8, hfz17_8⟩ := cfz9 BK177.out
    go_wp2_with (first | ((with_reducible refine gate_callee (f := 30) rfl ?_); refine goesL_ (some 8) rfl rfl Try.func30 (by kernel_rfl) rfl #[.int .i64 a0_1] rfl (by (try simp only [List.map_toArray, List.map_cons, List.map_nil]); first | done | rfl | (simp only [List.length_drop, List.length_take]; rfl)) ?_; (with_reducible refine (corncribref07_Address.calls a0_1 true _ A4.out).mono ?_); rintro e w' ⟨rfl, ⟨nd, rfl⟩⟩; refine ⟨_, rfl, ?_⟩) | (go_at_call 30; (with_reducible refine (corncribref07_Address.calls a0_2 false _ A6.out).mono ?_); rintro e w' ⟨rfl, ⟨nd, rfl⟩⟩))
    go_meet
    case rel => exact ⟨_, (true), (by first | rfl | (simp; done) | (simp [*]; done) | (simp [bne_nil_]; done)), H', ⟨by first | omega | exact Nat.le_refl _⟩, ⟨by (with_reducible repeat (first | refine blk_drewN ?_ _ | refine blk_drew ?_ | refine blk_alloc ?_ _)); exact BK177.out⟩, ⟨by repeat (first | (with_reducible first | exact HB.out | apply below_alloc | apply pw_below_drewN | apply below_drew1 | refine below_set ?_ GE177.out) | exact HB.out)⟩⟩
  ·replace c5 := Bool.eq_false_iff.mpr c5
   subst c5
   have H1 : (corncribref07_Check.j0 k true a0_0 a0_1 a0_2 a0_3 a0_4 a0_5 a0_6 l0_7 l0_8) = some r := by rw [if_neg (show ¬ (false = true) by decide)] at H; exact H
   clear H
   have H := H1
   clear H1
   have H' := Aside0.mk H
   clear H
   obtain ⟨hcz18_0, hfz18_0, hcz18_1, hfz18_1, hcz18_2, hfz18_2, hcz18_3, hfz18_3, hcz18_4, hfz18_4, hcz18_5, hfz18_5, hcz18_6, hfz18_6, hcz18_7, hfz18_7, hcz18_8, hfz18_8⟩ := cfz9 BK177.out
   go_wp2_with (first | ((with_reducible refine gate_callee (f := 30) rfl ?_); refine goesL_ (some 8) rfl rfl Try.func30 (by kernel_rfl) rfl #[.int .i64 a0_1] rfl (by (try simp only [List.map_toArray, List.map_cons, List.map_nil]); first | done | rfl | (simp only [List.length_drop, List.length_take]; rfl)) ?_; (with_reducible refine (corncribref07_Address.calls a0_1 false _ A4.out).mono ?_); rintro e w' ⟨rfl, ⟨nd, rfl⟩⟩; refine ⟨_, rfl, ?_⟩))
   go_meet
   case rel => exact ⟨_, (true), (by first | rfl | (simp; done) | (simp [*]; done) | (simp [bne_nil_]; done)), H', ⟨by first | omega | exact Nat.le_refl _⟩, ⟨by (with_reducible repeat (first | refine blk_drewN ?_ _ | refine blk_drew ?_ | refine blk_alloc ?_ _)); exact BK177.out⟩, ⟨by repeat (first | (with_reducible first | exact HB.out | apply below_alloc | apply pw_below_drewN | apply below_drew1 | refine below_set ?_ GE177.out) | exact HB.out)⟩⟩
 case rest =>
  clear HC2
  (try clear c1); (try clear p2); (try clear c3); (try clear c5); (try clear c7); (try clear c9); (try clear c11); (try clear c12); (try clear c12b0); (try clear c14); (try clear hcz13_0); (try clear hcz13_1); (try clear hcz13_2); (try clear hcz13_3); (try clear hcz13_4); (try clear hcz13_5); (try clear hcz13_6); (try clear hcz13_7); (try clear hcz13_8); (try clear hcz14_0); (try clear hcz14_1); (try clear hcz14_2); (try clear hcz14_3); (try clear hcz14_4); (try clear hcz14_5); (try clear hcz14_6); (try clear hcz14_7); (try clear hcz14_8); (try clear hcz15_0); (try clear hcz15_1); (try clear hcz15_2); (try clear hcz15_3); (try clear hcz15_4); (try clear hcz15_5); (try clear hcz15_6); (try clear hcz15_7); (try clear hcz15_8); (try clear hcz16_0); (try clear hcz16_1); (try clear hcz16_2); (try clear hcz16_3); (try clear hcz16_4); (try clear hcz16_5); (try clear hcz16_6); (try clear hcz16_7); (try clear hcz16_8); (try clear hcz17_0); (try clear hcz17_1); (try clear hcz17_2); (try clear hcz17_3); (try clear hcz17_4); (try clear hcz17_5); (try clear hcz17_6); (try clear hcz17_7); (try clear hcz17_8); (try clear hcz18_0); (try clear hcz18_1); (try clear hcz18_2); (try clear hcz18_3); (try clear hcz18_4); (try clear hcz18_5); (try clear hcz18_6); (try clear hcz18_7); (try clear hcz18_8); (try clear hfz13_0); (try clear hfz13_1); (try clear hfz13_2); (try clear hfz13_3); (try clear hfz13_4); (try clear hfz13_5); (try clear hfz13_6); (try clear hfz13_7); (try clear hfz13_8); (try clear hfz14_0); (try clear hfz14_1); (try clear hfz14_2); (try clear hfz14_3); (try clear hfz14_4); (try clear hfz14_5); (try clear hfz14_6); (try clear hfz14_7); (try clear hfz14_8); (try clear hfz15_0); (try clear hfz15_1); (try clear hfz15_2); (try clear hfz15_3); (try clear hfz15_4); (try clear hfz15_5); (try clear hfz15_6); (try clear hfz15_7); (try clear hfz15_8); (try clear hfz16_0); (try clear hfz16_1); (try clear hfz16_2); (try clear hfz16_3); (try clear hfz16_4); (try clear hfz16_5); (try clear hfz16_6); (try clear hfz16_7); (try clear hfz16_8); (try clear hfz17_0); (try clear hfz17_1); (try clear hfz17_2); (try clear hfz17_3); (try clear hfz17_4); (try clear hfz17_5); (try clear hfz17_6); (try clear hfz17_7); (try clear hfz17_8); (try clear hfz18_0); (try clear hfz18_1); (try clear hfz18_2); (try clear hfz18_3); (try clear hfz18_4); (try clear hfz18_5); (try clear hfz18_6); (try clear hfz18_7); (try clear hfz18_8)
  obtain ⟨kq, x37_1, rfl, HA, HJ1, BK177, HB⟩ := hcut
  cases kq with
  |zero => exact absurd HA.out (by simp [corncribref07_Check.j0])
  |succ kj1 =>
   have H := HA.out
   clear HA
   simp only [corncribref07_Check.j0] at H
   by_cases c19 : x37_1 = true
   ·subst c19
    have H1 : (some 70) = some r := by rw [if_pos rfl] at H; exact H
    clear H
    have H := H1
    clear H1
    obtain rfl := Option.some.inj H
    go_wp2
    go_ret
    exact ⟨by first | rfl | (simp [errW_none, errW_some] <;> rfl) | (simp [*, errW_none, errW_some] <;> rfl), by repeat (first | (with_reducible first | exact HB.out | apply below_alloc | apply pw_below_drewN | apply below_drew1 | refine below_set ?_ GE177.out) | exact HB.out)⟩
   ·replace c19 := Bool.eq_false_iff.mpr c19
    subst c19
    have H1 : (if (l0_7.length : Int) = 1 then (if 0 < (l0_7.length : Int) then ((corncribref07_Key.f (rdOf ByteArray.empty l0_7 0)).bind fun t183 => (if t183 = true then (corncribref07_Check.j1 kj1 ((l0_8.length : Int) == 0) a0_0 a0_1 a0_2 a0_3 a0_4 a0_5 a0_6 l0_7 l0_8) else (corncribref07_Check.j1 kj1 false a0_0 a0_1 a0_2 a0_3 a0_4 a0_5 a0_6 l0_7 l0_8))) else (none)) else (corncribref07_Check.j1 kj1 false a0_0 a0_1 a0_2 a0_3 a0_4 a0_5 a0_6 l0_7 l0_8)) = some r := by rw [if_neg (show ¬ (false = true) by decide)] at H; exact H
    clear H
    have H := H1
    clear H1
    have HC20 := Aside0.mk H
    clear H
    go_upto_region 3 with (fail)
    go_cut [3] (fun v3 wc => ∃ (kq : Nat) (x3_19 : Bool), v3 = .bool x3_19 ∧ Aside0 (corncribref07_Check.j1 kq x3_19 a0_0 a0_1 a0_2 a0_3 a0_4 a0_5 a0_6 l0_7 l0_8 = some r) ∧ Aside0 (kq ≤ kj1) ∧ Aside0 (wc.heap[gb177]? = some (.cells #[.int .i64 a0_0, .int .i64 a0_1, .int .i64 a0_2, .int .i64 a0_3, .int .i64 a0_4, .int .i64 a0_5, .string a0_6, (.slice A0_7 l0_7.length c0_7), (.slice A0_8 l0_8.length c0_8)] 25 (0, 0))) ∧ Aside0 (Below w.heap.size w wc))
    case first =>
     have H := HC20.out
     clear HC20
     by_cases c21 : (l0_7.length : Int) = 1
     ·rw [if_pos c21] at H
      have c21b0 : ((l0_7.length : Int) == 1) = true := beq_iff_eq.mpr c21
      have c21b1 : ((l0_7.length : Int) != 1) = false := bne_eq_false_iff_eq.mpr c21
      clear c21
      (first | rw [c21b0] | (simp only [i64_w, i32_w]; rw [c21b0]) | skip)
      by_cases c22 : 0 < (l0_7.length : Int)
      ·rw [if_pos c22] at H
       have c22b0 : decide (0 < (l0_7.length : Int)) = true := decide_eq_true c22
       have c22b1 : decide (0 < l0_7.length) = true := decide_eq_true (by omega)
       clear c22
       replace H := Option.bind_eq_some_iff.mp H
       obtain ⟨t183, A230, H⟩ := H
       replace H : (if t183 = true then (corncribref07_Check.j1 kj1 ((l0_8.length : Int) == 0) a0_0 a0_1 a0_2 a0_3 a0_4 a0_5 a0_6 l0_7 l0_8) else (corncribref07_Check.j1 kj1 false a0_0 a0_1 a0_2 a0_3 a0_4 a0_5 a0_6 l0_7 l0_8)) = some r := H
       have A23 := Aside0.mk A230
       clear A230
       by_cases c24 : t183 = true
       ·subst c24
        have H1 : (corncribref07_Check.j1 kj1 ((l0_8.length : Int) == 0) a0_0 a0_1 a0_2 a0_3 a0_4 a0_5 a0_6 l0_7 l0_8) = some r := by rw [if_pos rfl] at H; exact H
        clear H
        have H := H1
        clear H1
        have H' := Aside0.mk H
        clear H
        obtain ⟨hcz25_0, hfz25_0, hcz25_1, hfz25_1, hcz25_2, hfz25_2, hcz25_3, hfz25_3, hcz25_4, hfz25_4, hcz25_5, hfz25_5, hcz25_6, hfz25_6, hcz25_7, hfz25_7, hcz25_8, hfz25_8⟩ := cfz9 BK177.out
        have p182 : 0 ≤ (0 : Int) := (by omega)
        have q182 : 0 < (l0_7.length : Int) := of_decide_eq_true (by first | (with_reducible assumption) | assumption)
        obtain ⟨ad182, e182, hx182_0⟩ := Kd.at_string HR0_7.out 0 p182 q182
        cases e182
        have qi182 : (0 < l0_7.length) = True := eq_true (by omega)
        (try rw [show ((0 : Int)).toNat = 0 from rfl] at hx182_0)
        (try rw [Addr.add_zero'] at hx182_0)
        replace hx182_0 := (HB.out.cell (World.block_lt_of_cell? w _ hx182_0)).trans hx182_0
        replace p182 := eq_true p182
        replace q182 := eq_true q182
        go_wp2_with (first | (go_at_call 19; (with_reducible refine (corncribref07_Key.calls (rdOf ByteArray.empty l0_7 0) true _ A23.out).mono ?_); rintro e w' ⟨rfl, ⟨nd, rfl⟩⟩))
        go_meet
        case rel => exact ⟨_, (((l0_8.length : Int) == 0)), (by first | rfl | (simp; done) | (simp [*]; done) | (simp [bne_nil_]; done)), H', ⟨by have := HJ1.out; first | omega | exact Nat.le_refl _⟩, ⟨by (with_reducible repeat (first | refine blk_drewN ?_ _ | refine blk_drew ?_ | refine blk_alloc ?_ _)); exact BK177.out⟩, ⟨by repeat (first | (with_reducible first | exact HB.out | apply below_alloc | apply pw_below_drewN | apply below_drew1 | refine below_set ?_ GE177.out) | exact HB.out)⟩⟩
       ·replace c24 := Bool.eq_false_iff.mpr c24
        subst c24
        have H1 : (corncribref07_Check.j1 kj1 false a0_0 a0_1 a0_2 a0_3 a0_4 a0_5 a0_6 l0_7 l0_8) = some r := by rw [if_neg (show ¬ (false = true) by decide)] at H; exact H
        clear H
        have H := H1
        clear H1
        have H' := Aside0.mk H
        clear H
        obtain ⟨hcz26_0, hfz26_0, hcz26_1, hfz26_1, hcz26_2, hfz26_2, hcz26_3, hfz26_3, hcz26_4, hfz26_4, hcz26_5, hfz26_5, hcz26_6, hfz26_6, hcz26_7, hfz26_7, hcz26_8, hfz26_8⟩ := cfz9 BK177.out
        have p182 : 0 ≤ (0 : Int) := (by omega)
        have q182 : 0 < (l0_7.length : Int) := of_decide_eq_true (by first | (with_reducible assumption) | assumption)
        obtain ⟨ad182, e182, hx182_0⟩ := Kd.at_string HR0_7.out 0 p182 q182
        cases e182
        have qi182 : (0 < l0_7.length) = True := eq_true (by omega)
        (try rw [show ((0 : Int)).toNat = 0 from rfl] at hx182_0)
        (try rw [Addr.add_zero'] at hx182_0)
        replace hx182_0 := (HB.out.cell (World.block_lt_of_cell? w _ hx182_0)).trans hx182_0
        replace p182 := eq_true p182
        replace q182 := eq_true q182
        go_wp2_with (first | (go_at_call 19; (with_reducible refine (corncribref07_Key.calls (rdOf ByteArray.empty l0_7 0) false _ A23.out).mono ?_); rintro e w' ⟨rfl, ⟨nd, rfl⟩⟩))
        go_meet
        case rel => exact ⟨_, (false), (by first | rfl | (simp; done) | (simp [*]; done) | (simp [bne_nil_]; done)), H', ⟨by have := HJ1.out; first | omega | exact Nat.le_refl _⟩, ⟨by (with_reducible repeat (first | refine blk_drewN ?_ _ | refine blk_drew ?_ | refine blk_alloc ?_ _)); exact BK177.out⟩, ⟨by repeat (first | (with_reducible first | exact HB.out | apply below_alloc | apply pw_below_drewN | apply below_drew1 | refine below_set ?_ GE177.out) | exact HB.out)⟩⟩
      ·rw [if_neg c22] at H
       exact absurd H (by simp)
     ·rw [if_neg c21] at H
      have c21b0 : ((l0_7.length : Int) == 1) = false := beq_eq_false_iff_ne.mpr c21
      have c21b1 : ((l0_7.length : Int) != 1) = true := bne_iff_ne.mpr c21
      (first | rw [c21b0] | (simp only [i64_w, i32_w]; rw [c21b0]) | skip)
      have H' := Aside0.mk H
      clear H
      obtain ⟨hcz27_0, hfz27_0, hcz27_1, hfz27_1, hcz27_2, hfz27_2, hcz27_3, hfz27_3, hcz27_4, hfz27_4, hcz27_5, hfz27_5, hcz27_6, hfz27_6, hcz27_7, hfz27_7, hcz27_8, hfz27_8⟩ := cfz9 BK177.out
      go_wp2
      go_meet
      case rel => exact ⟨_, (false), (by first | rfl | (simp; done) | (simp [*]; done) | (simp [bne_nil_]; done)), H', ⟨by have := HJ1.out; first | omega | exact Nat.le_refl _⟩, ⟨by (with_reducible repeat (first | refine blk_drewN ?_ _ | refine blk_drew ?_ | refine blk_alloc ?_ _)); exact BK177.out⟩, ⟨by repeat (first | (with_reducible first | exact HB.out | apply below_alloc | apply pw_below_drewN | apply below_drew1 | refine below_set ?_ GE177.out) | exact HB.out)⟩⟩
    case rest =>
     clear HC20
     (try clear c1); (try clear p1); (try clear q1); (try clear hx1); (try clear qi1); (try clear c2); (try clear p2); (try clear c3); (try clear c5); (try clear c7); (try clear c9); (try clear c11); (try clear c12); (try clear c12b0); (try clear c14); (try clear p18); (try clear q18); (try clear hx18); (try clear qi18); (try clear c19); (try clear c21); (try clear c21b0); (try clear c21b1); (try clear c22); (try clear c22b0); (try clear c22b1); (try clear c24); (try clear hcz13_0); (try clear hcz13_1); (try clear hcz13_2); (try clear hcz13_3); (try clear hcz13_4); (try clear hcz13_5); (try clear hcz13_6); (try clear hcz13_7); (try clear hcz13_8); (try clear hcz14_0); (try clear hcz14_1); (try clear hcz14_2); (try clear hcz14_3); (try clear hcz14_4); (try clear hcz14_5); (try clear hcz14_6); (try clear hcz14_7); (try clear hcz14_8); (try clear hcz15_0); (try clear hcz15_1); (try clear hcz15_2); (try clear hcz15_3); (try clear hcz15_4); (try clear hcz15_5); (try clear hcz15_6); (try clear hcz15_7); (try clear hcz15_8); (try clear hcz16_0); (try clear hcz16_1); (try clear hcz16_2); (try clear hcz16_3); (try clear hcz16_4); (try clear hcz16_5); (try clear hcz16_6); (try clear hcz16_7); (try clear hcz16_8); (try clear hcz17_0); (try clear hcz17_1); (try clear hcz17_2); (try clear hcz17_3); (try clear hcz17_4); (try clear hcz17_5); (try clear hcz17_6); (try clear hcz17_7); (try clear hcz17_8); (try clear hcz18_0); (try clear hcz18_1); (try clear hcz18_2); (try clear hcz18_3); (try clear hcz18_4); (try clear hcz18_5); (try clear hcz18_6); (try clear hcz18_7); (try clear hcz18_8); (try clear hcz25_0); (try clear hcz25_1); (try clear hcz25_2); (try clear hcz25_3); (try clear hcz25_4); (try clear hcz25_5); (try clear hcz25_6); (try clear hcz25_7); (try clear hcz25_8); (try clear hcz26_0); (try clear hcz26_1); (try clear hcz26_2); (try clear hcz26_3); (try clear hcz26_4); (try clear hcz26_5); (try clear hcz26_6); (try clear hcz26_7); (try clear hcz26_8); (try clear hcz27_0); (try clear hcz27_1); (try clear hcz27_2); (try clear hcz27_3); (try clear hcz27_4); (try clear hcz27_5); (try clear hcz27_6); (try clear hcz27_7); (try clear hcz27_8); (try clear hfz13_0); (try clear hfz13_1); (try clear hfz13_2); (try clear hfz13_3); (try clear hfz13_4); (try clear hfz13_5); (try clear hfz13_6); (try clear hfz13_7); (try clear hfz13_8); (try clear hfz14_0); (try clear hfz14_1); (try clear hfz14_2); (try clear hfz14_3); (try clear hfz14_4); (try clear hfz14_5); (try clear hfz14_6); (try clear hfz14_7); (try clear hfz14_8); (try clear hfz15_0); (try clear hfz15_1); (try clear hfz15_2); (try clear hfz15_3); (try clear hfz15_4); (try clear hfz15_5); (try clear hfz15_6); (try clear hfz15_7); (try clear hfz15_8); (try clear hfz16_0); (try clear hfz16_1); (try clear hfz16_2); (try clear hfz16_3); (try clear hfz16_4); (try clear hfz16_5); (try clear hfz16_6); (try clear hfz16_7); (try clear hfz16_8); (try clear hfz17_0); (try clear hfz17_1); (try clear hfz17_2); (try clear hfz17_3); (try clear hfz17_4); (try clear hfz17_5); (try clear hfz17_6); (try clear hfz17_7); (try clear hfz17_8); (try clear hfz18_0); (try clear hfz18_1); (try clear hfz18_2); (try clear hfz18_3); (try clear hfz18_4); (try clear hfz18_5); (try clear hfz18_6); (try clear hfz18_7); (try clear hfz18_8); (try clear hfz25_0); (try clear hfz25_1); (try clear hfz25_2); (try clear hfz25_3); (try clear hfz25_4); (try clear hfz25_5); (try clear hfz25_6); (try clear hfz25_7); (try clear hfz25_8); (try clear hfz26_0); (try clear hfz26_1); (try clear hfz26_2); (try clear hfz26_3); (try clear hfz26_4); (try clear hfz26_5); (try clear hfz26_6); (try clear hfz26_7); (try clear hfz26_8); (try clear hfz27_0); (try clear hfz27_1); (try clear hfz27_2); (try clear hfz27_3); (try clear hfz27_4); (try clear hfz27_5); (try clear hfz27_6); (try clear hfz27_7); (try clear hfz27_8); (try clear hx182_0); (try clear p182); (try clear p2); (try clear q182)
     obtain ⟨kq, x3_19, rfl, HA, HJ19, BK177, HB⟩ := hcut
     cases kq with
     |zero => exact absurd HA.out (by simp [corncribref07_Check.j1])
     |succ kj19 =>
      have H := HA.out
      clear HA
      simp only [corncribref07_Check.j1] at H
      have HC28 := Aside0.mk H
      clear H
      go_upto_region 4 with (fail)
      go_cut [4] (fun v4 wc => ∃ (kq : Nat) (x4_27 : Bool), v4 = .bool x4_27 ∧ Aside0 (corncribref07_Check.j2 kq x3_19 x4_27 a0_0 a0_1 a0_2 a0_3 a0_4 a0_5 a0_6 l0_7 l0_8 = some r) ∧ Aside0 (kq ≤ kj19) ∧ Aside0 (wc.heap[gb177]? = some (.cells #[.int .i64 a0_0, .int .i64 a0_1, .int .i64 a0_2, .int .i64 a0_3, .int .i64 a0_4, .int .i64 a0_5, .string a0_6, (.slice A0_7 l0_7.length c0_7), (.slice A0_8 l0_8.length c0_8)] 25 (0, 0))) ∧ Aside0 (Below w.heap.size w wc))
      case first =>
       have H := HC28.out
       clear HC28
       by_cases c29 : (l0_7.length : Int) = 0
       ·rw [if_pos c29] at H
        have c29b0 : ((l0_7.length : Int) == 0) = true := beq_iff_eq.mpr c29
        have c29b1 : ((l0_7.length : Int) != 0) = false := bne_eq_false_iff_eq.mpr c29
        clear c29
        (first | rw [c29b0] | (simp only [i64_w, i32_w]; rw [c29b0]) | skip)
        by_cases c30 : (l0_8.length : Int) = 0
        ·rw [if_pos c30] at H
         have c30b0 : ((l0_8.length : Int) == 0) = true := beq_iff_eq.mpr c30
         have c30b1 : ((l0_8.length : Int) != 0) = false := bne_eq_false_iff_eq.mpr c30
         clear c30
         have H' := Aside0.mk H
         clear H
         obtain ⟨hcz31_0, hfz31_0, hcz31_1, hfz31_1, hcz31_2, hfz31_2, hcz31_3, hfz31_3, hcz31_4, hfz31_4, hcz31_5, hfz31_5, hcz31_6, hfz31_6, hcz31_7, hfz31_7, hcz31_8, hfz31_8⟩ := cfz9 BK177.out
         go_wp2
         go_meet
         case rel => exact ⟨_, ((a0_6.toList == ([] : List UInt8))), (by first | rfl | (simp; done) | (simp [*]; done) | (simp [bne_nil_]; done)), H', ⟨by have := HJ1.out; have := HJ19.out; first | omega | exact Nat.le_refl _⟩, ⟨by (with_reducible repeat (first | refine blk_drewN ?_ _ | refine blk_drew ?_ | refine blk_alloc ?_ _)); exact BK177.out⟩, ⟨by repeat (first | (with_reducible first | exact HB.out | apply below_alloc | apply pw_below_drewN | apply below_drew1 | refine below_set ?_ GE177.out) | exact HB.out)⟩⟩
        ·rw [if_neg c30] at H
         have c30b0 : ((l0_8.length : Int) == 0) = false := beq_eq_false_iff_ne.mpr c30
         have c30b1 : ((l0_8.length : Int) != 0) = true := bne_iff_ne.mpr c30
         have c30b2 : ¬ (l0_8 = []) := fun h_ => c30 (by rw [h_]; rfl)
         have H' := Aside0.mk H
         clear H
         obtain ⟨hcz32_0, hfz32_0, hcz32_1, hfz32_1, hcz32_2, hfz32_2, hcz32_3, hfz32_3, hcz32_4, hfz32_4, hcz32_5, hfz32_5, hcz32_6, hfz32_6, hcz32_7, hfz32_7, hcz32_8, hfz32_8⟩ := cfz9 BK177.out
         go_wp2
         go_meet
         case rel => exact ⟨_, (false), (by first | rfl | (simp; done) | (simp [*]; done) | (simp [bne_nil_]; done)), H', ⟨by have := HJ1.out; have := HJ19.out; first | omega | exact Nat.le_refl _⟩, ⟨by (with_reducible repeat (first | refine blk_drewN ?_ _ | refine blk_drew ?_ | refine blk_alloc ?_ _)); exact BK177.out⟩, ⟨by repeat (first | (with_reducible first | exact HB.out | apply below_alloc | apply pw_below_drewN | apply below_drew1 | refine below_set ?_ GE177.out) | exact HB.out)⟩⟩
       ·rw [if_neg c29] at H
        have c29b0 : ((l0_7.length : Int) == 0) = false := beq_eq_false_iff_ne.mpr c29
        have c29b1 : ((l0_7.length : Int) != 0) = true := bne_iff_ne.mpr c29
        have c29b2 : ¬ (l0_7 = []) := fun h_ => c29 (by rw [h_]; rfl)
        (first | rw [c29b0] | (simp only [i64_w, i32_w]; rw [c29b0]) | skip)
        have H' := Aside0.mk H
        clear H
        obtain ⟨hcz33_0, hfz33_0, hcz33_1, hfz33_1, hcz33_2, hfz33_2, hcz33_3, hfz33_3, hcz33_4, hfz33_4, hcz33_5, hfz33_5, hcz33_6, hfz33_6, hcz33_7, hfz33_7, hcz33_8, hfz33_8⟩ := cfz9 BK177.out
        go_wp2
        go_meet
        case rel => exact ⟨_, (false), (by first | rfl | (simp; done) | (simp [*]; done) | (simp [bne_nil_]; done)), H', ⟨by have := HJ1.out; have := HJ19.out; first | omega | exact Nat.le_refl _⟩, ⟨by (with_reducible repeat (first | refine blk_drewN ?_ _ | refine blk_drew ?_ | refine blk_alloc ?_ _)); exact BK177.out⟩, ⟨by repeat (first | (with_reducible first | exact HB.out | apply below_alloc | apply pw_below_drewN | apply below_drew1 | refine below_set ?_ GE177.out) | exact HB.out)⟩⟩
      case rest =>
       clear HC28
       (try clear c1); (try clear p1); (try clear q1); (try clear hx1); (try clear qi1); (try clear c2); (try clear p2); (try clear c3); (try clear c5); (try clear c7); (try clear c9); (try clear c11); (try clear c12); (try clear c12b0); (try clear c14); (try clear p18); (try clear q18); (try clear hx18); (try clear qi18); (try clear c19); (try clear c21); (try clear c21b0); (try clear c21b1); (try clear c22); (try clear c22b0); (try clear c22b1); (try clear c24); (try clear c29); (try clear c29b0); (try clear c29b1); (try clear c29b2); (try clear c30); (try clear c30b0); (try clear c30b1); (try clear c30b2); (try clear hcz13_0); (try clear hcz13_1); (try clear hcz13_2); (try clear hcz13_3); (try clear hcz13_4); (try clear hcz13_5); (try clear hcz13_6); (try clear hcz13_7); (try clear hcz13_8); (try clear hcz14_0); (try clear hcz14_1); (try clear hcz14_2); (try clear hcz14_3); (try clear hcz14_4); (try clear hcz14_5); (try clear hcz14_6); (try clear hcz14_7); (try clear hcz14_8); (try clear hcz15_0); (try clear hcz15_1); (try clear hcz15_2); (try clear hcz15_3); (try clear hcz15_4); (try clear hcz15_5); (try clear hcz15_6); (try clear hcz15_7); (try clear hcz15_8); (try clear hcz16_0); (try clear hcz16_1); (try clear hcz16_2); (try clear hcz16_3); (try clear hcz16_4); (try clear hcz16_5); (try clear hcz16_6); (try clear hcz16_7); (try clear hcz16_8); (try clear hcz17_0); (try clear hcz17_1); (try clear hcz17_2); (try clear hcz17_3); (try clear hcz17_4); (try clear hcz17_5); (try clear hcz17_6); (try clear hcz17_7); (try clear hcz17_8); (try clear hcz18_0); (try clear hcz18_1); (try clear hcz18_2); (try clear hcz18_3); (try clear hcz18_4); (try clear hcz18_5); (try clear hcz18_6); (try clear hcz18_7); (try clear hcz18_8); (try clear hcz25_0); (try clear hcz25_1); (try clear hcz25_2); (try clear hcz25_3); (try clear hcz25_4); (try clear hcz25_5); (try clear hcz25_6); (try clear hcz25_7); (try clear hcz25_8); (try clear hcz26_0); (try clear hcz26_1); (try clear hcz26_2); (try clear hcz26_3); (try clear hcz26_4); (try clear hcz26_5); (try clear hcz26_6); (try clear hcz26_7); (try clear hcz26_8); (try clear hcz27_0); (try clear hcz27_1); (try clear hcz27_2); (try clear hcz27_3); (try clear hcz27_4); (try clear hcz27_5); (try clear hcz27_6); (try clear hcz27_7); (try clear hcz27_8); (try clear hcz31_0); (try clear hcz31_1); (try clear hcz31_2); (try clear hcz31_3); (try clear hcz31_4); (try clear hcz31_5); (try clear hcz31_6); (try clear hcz31_7); (try clear hcz31_8); (try clear hcz32_0); (try clear hcz32_1); (try clear hcz32_2); (try clear hcz32_3); (try clear hcz32_4); (try clear hcz32_5); (try clear hcz32_6); (try clear hcz32_7); (try clear hcz32_8); (try clear hcz33_0); (try clear hcz33_1); (try clear hcz33_2); (try clear hcz33_3); (try clear hcz33_4); (try clear hcz33_5); (try clear hcz33_6); (try clear hcz33_7); (try clear hcz33_8); (try clear hfz13_0); (try clear hfz13_1); (try clear hfz13_2); (try clear hfz13_3); (try clear hfz13_4); (try clear hfz13_5); (try clear hfz13_6); (try clear hfz13_7); (try clear hfz13_8); (try clear hfz14_0); (try clear hfz14_1); (try clear hfz14_2); (try clear hfz14_3); (try clear hfz14_4); (try clear hfz14_5); (try clear hfz14_6); (try clear hfz14_7); (try clear hfz14_8); (try clear hfz15_0); (try clear hfz15_1); (try clear hfz15_2); (try clear hfz15_3); (try clear hfz15_4); (try clear hfz15_5); (try clear hfz15_6); (try clear hfz15_7); (try clear hfz15_8); (try clear hfz16_0); (try clear hfz16_1); (try clear hfz16_2); (try clear hfz16_3); (try clear hfz16_4); (try clear hfz16_5); (try clear hfz16_6); (try clear hfz16_7); (try clear hfz16_8); (try clear hfz17_0); (try clear hfz17_1); (try clear hfz17_2); (try clear hfz17_3); (try clear hfz17_4); (try clear hfz17_5); (try clear hfz17_6); (try clear hfz17_7); (try clear hfz17_8); (try clear hfz18_0); (try clear hfz18_1); (try clear hfz18_2); (try clear hfz18_3); (try clear hfz18_4); (try clear hfz18_5); (try clear hfz18_6); (try clear hfz18_7); (try clear hfz18_8); (try clear hfz25_0); (try clear hfz25_1); (try clear hfz25_2); (try clear hfz25_3); (try clear hfz25_4); (try clear hfz25_5); (try clear hfz25_6); (try clear hfz25_7); (try clear hfz25_8); (try clear hfz26_0); (try clear hfz26_1); (try clear hfz26_2); (try clear hfz26_3); (try clear hfz26_4); (try clear hfz26_5); (try clear hfz26_6); (try clear hfz26_7); (try clear hfz26_8); (try clear hfz27_0); (try clear hfz27_1); (try clear hfz27_2); (try clear hfz27_3); (try clear hfz27_4); (try clear hfz27_5); (try clear hfz27_6); (try clear hfz27_7); (try clear hfz27_8); (try clear hfz31_0); (try clear hfz31_1); (try clear hfz31_2); (try clear hfz31_3); (try clear hfz31_4); (try clear hfz31_5); (try clear hfz31_6); (try clear hfz31_7); (try clear hfz31_8); (try clear hfz32_0); (try clear hfz32_1); (try clear hfz32_2); (try clear hfz32_3); (try clear hfz32_4); (try clear hfz32_5); (try clear hfz32_6); (try clear hfz32_7); (try clear hfz32_8); (try clear hfz33_0); (try clear hfz33_1); (try clear hfz33_2); (try clear hfz33_3); (try clear hfz33_4); (try clear hfz33_5); (try clear hfz33_6); (try clear hfz33_7); (try clear hfz33_8); (try clear hx182_0); (try clear p1); (try clear p18); (try clear p182); (try clear p2); (try clear q1); (try clear q18); (try clear q182)
       obtain ⟨kq, x4_27, rfl, HA, HJ27, BK177, HB⟩ := hcut
       cases kq with
       |zero => exact absurd HA.out (by simp [corncribref07_Check.j2])
       |succ kj27 =>
        have H := HA.out
        clear HA
        simp only [corncribref07_Check.j2] at H
        by_cases c34 : a0_0 = 1
        ·rw [if_pos c34] at H
         have c34b0 : (a0_0 == 1) = true := beq_iff_eq.mpr c34
         have c34b1 : (a0_0 != 1) = false := bne_eq_false_iff_eq.mpr c34
         clear c34
         by_cases c35 : x3_19 = true
         ·subst c35
          have H1 : (if a0_6.toList = ([] : List UInt8) then (if a0_5 = 0 then (some 0) else (some 70)) else (some 70)) = some r := by rw [if_pos rfl] at H; exact H
          clear H
          have H := H1
          clear H1
          by_cases c36 : a0_6.toList = ([] : List UInt8)
          ·rw [if_pos c36] at H
           have c36b0 : (a0_6.toList == ([] : List UInt8)) = true := beq_iff_eq.mpr c36
           have c36b1 : (a0_6.toList != ([] : List UInt8)) = false := bne_eq_false_iff_eq.mpr c36
           clear c36
           by_cases c37 : a0_5 = 0
           ·rw [if_pos c37] at H
            have c37b0 : (a0_5 == 0) = true := beq_iff_eq.mpr c37
            have c37b1 : (a0_5 != 0) = false := bne_eq_false_iff_eq.mpr c37
            clear c37
            obtain rfl := Option.some.inj H
            obtain ⟨hcz38_0, hfz38_0, hcz38_1, hfz38_1, hcz38_2, hfz38_2, hcz38_3, hfz38_3, hcz38_4, hfz38_4, hcz38_5, hfz38_5, hcz38_6, hfz38_6, hcz38_7, hfz38_7, hcz38_8, hfz38_8⟩ := cfz9 BK177.out
            go_wp2
            go_ret
            exact ⟨by first | rfl | (simp [errW_none, errW_some] <;> rfl) | (simp [*, errW_none, errW_some] <;> rfl), by repeat (first | (with_reducible first | exact HB.out | apply below_alloc | apply pw_below_drewN | apply below_drew1 | refine below_set ?_ GE177.out) | exact HB.out)⟩
           ·rw [if_neg c37] at H
            have c37b0 : (a0_5 == 0) = false := beq_eq_false_iff_ne.mpr c37
            have c37b1 : (a0_5 != 0) = true := bne_iff_ne.mpr c37
            obtain rfl := Option.some.inj H
            obtain ⟨hcz39_0, hfz39_0, hcz39_1, hfz39_1, hcz39_2, hfz39_2, hcz39_3, hfz39_3, hcz39_4, hfz39_4, hcz39_5, hfz39_5, hcz39_6, hfz39_6, hcz39_7, hfz39_7, hcz39_8, hfz39_8⟩ := cfz9 BK177.out
            go_wp2
            go_ret
            exact ⟨by first | rfl | (simp [errW_none, errW_some] <;> rfl) | (simp [*, errW_none, errW_some] <;> rfl), by repeat (first | (with_reducible first | exact HB.out | apply below_alloc | apply pw_below_drewN | apply below_drew1 | refine below_set ?_ GE177.out) | exact HB.out)⟩
          ·rw [if_neg c36] at H
           have c36b0 : (a0_6.toList == ([] : List UInt8)) = false := beq_eq_false_iff_ne.mpr c36
           have c36b1 : (a0_6.toList != ([] : List UInt8)) = true := bne_iff_ne.mpr c36
           obtain rfl := Option.some.inj H
           obtain ⟨hcz40_0, hfz40_0, hcz40_1, hfz40_1, hcz40_2, hfz40_2, hcz40_3, hfz40_3, hcz40_4, hfz40_4, hcz40_5, hfz40_5, hcz40_6, hfz40_6, hcz40_7, hfz40_7, hcz40_8, hfz40_8⟩ := cfz9 BK177.out
           go_wp2
           go_ret
           exact ⟨by first | rfl | (simp [errW_none, errW_some] <;> rfl) | (simp [*, errW_none, errW_some] <;> rfl), by repeat (first | (with_reducible first | exact HB.out | apply below_alloc | apply pw_below_drewN | apply below_drew1 | refine below_set ?_ GE177.out) | exact HB.out)⟩
         ·replace c35 := Bool.eq_false_iff.mpr c35
          subst c35
          have H1 : (some 70) = some r := by rw [if_neg (show ¬ (false = true) by decide)] at H; exact H
          clear H
          have H := H1
          clear H1
          obtain rfl := Option.some.inj H
          obtain ⟨hcz41_0, hfz41_0, hcz41_1, hfz41_1, hcz41_2, hfz41_2, hcz41_3, hfz41_3, hcz41_4, hfz41_4, hcz41_5, hfz41_5, hcz41_6, hfz41_6, hcz41_7, hfz41_7, hcz41_8, hfz41_8⟩ := cfz9 BK177.out
          go_wp2
          go_ret
          exact ⟨by first | rfl | (simp [errW_none, errW_some] <;> rfl) | (simp [*, errW_none, errW_some] <;> rfl), by repeat (first | (with_reducible first | exact HB.out | apply below_alloc | apply pw_below_drewN | apply below_drew1 | refine below_set ?_ GE177.out) | exact HB.out)⟩
        ·rw [if_neg c34] at H
         have c34b0 : (a0_0 == 1) = false := beq_eq_false_iff_ne.mpr c34
         have c34b1 : (a0_0 != 1) = true := bne_iff_ne.mpr c34
         by_cases c42 : a0_0 = 2
         ·rw [if_pos c42] at H
          have c42b0 : (a0_0 == 2) = true := beq_iff_eq.mpr c42
          have c42b1 : (a0_0 != 2) = false := bne_eq_false_iff_eq.mpr c42
          clear c42
          by_cases c43 : x3_19 = true
          ·subst c43
           have H1 : (if (a0_6.size : Int) ≤ 2052 then (if a0_6.toList = ([] : List UInt8) then (some 0) else (if a0_5 = 1 then (some 0) else (some 70))) else (some 70)) = some r := by rw [if_pos rfl] at H; exact H
           clear H
           have H := H1
           clear H1
           by_cases c44 : (a0_6.size : Int) ≤ 2052
           ·rw [if_pos c44] at H
            have c44b0 : decide ((a0_6.size : Int) ≤ 2052) = true := decide_eq_true c44
            have c44b1 : decide (a0_6.size ≤ 2052) = true := decide_eq_true (by omega)
            clear c44
            by_cases c45 : a0_6.toList = ([] : List UInt8)
            ·rw [if_pos c45] at H
             have c45b0 : (a0_6.toList == ([] : List UInt8)) = true := beq_iff_eq.mpr c45
             have c45b1 : (a0_6.toList != ([] : List UInt8)) = false := bne_eq_false_iff_eq.mpr c45
             clear c45
             obtain rfl := Option.some.inj H
             obtain ⟨hcz46_0, hfz46_0, hcz46_1, hfz46_1, hcz46_2, hfz46_2, hcz46_3, hfz46_3, hcz46_4, hfz46_4, hcz46_5, hfz46_5, hcz46_6, hfz46_6, hcz46_7, hfz46_7, hcz46_8, hfz46_8⟩ := cfz9 BK177.out
             go_wp2
             go_ret
             exact ⟨by first | rfl | (simp [errW_none, errW_some] <;> rfl) | (simp [*, errW_none, errW_some] <;> rfl), by repeat (first | (with_reducible first | exact HB.out | apply below_alloc | apply pw_below_drewN | apply below_drew1 | refine below_set ?_ GE177.out) | exact HB.out)⟩
            ·rw [if_neg c45] at H
             have c45b0 : (a0_6.toList == ([] : List UInt8)) = false := beq_eq_false_iff_ne.mpr c45
             have c45b1 : (a0_6.toList != ([] : List UInt8)) = true := bne_iff_ne.mpr c45
             by_cases c47 : a0_5 = 1
             ·rw [if_pos c47] at H
              have c47b0 : (a0_5 == 1) = true := beq_iff_eq.mpr c47
              have c47b1 : (a0_5 != 1) = false := bne_eq_false_iff_eq.mpr c47
              clear c47
              obtain rfl := Option.some.inj H
              obtain ⟨hcz48_0, hfz48_0, hcz48_1, hfz48_1, hcz48_2, hfz48_2, hcz48_3, hfz48_3, hcz48_4, hfz48_4, hcz48_5, hfz48_5, hcz48_6, hfz48_6, hcz48_7, hfz48_7, hcz48_8, hfz48_8⟩ := cfz9 BK177.out
              go_wp2
              go_ret
              exact ⟨by first | rfl | (simp [errW_none, errW_some] <;> rfl) | (simp [*, errW_none, errW_some] <;> rfl), by repeat (first | (with_reducible first | exact HB.out | apply below_alloc | apply pw_below_drewN | apply below_drew1 | refine below_set ?_ GE177.out) | exact HB.out)⟩
             ·rw [if_neg c47] at H
              have c47b0 : (a0_5 == 1) = false := beq_eq_false_iff_ne.mpr c47
              have c47b1 : (a0_5 != 1) = true := bne_iff_ne.mpr c47
              obtain rfl := Option.some.inj H
              obtain ⟨hcz49_0, hfz49_0, hcz49_1, hfz49_1, hcz49_2, hfz49_2, hcz49_3, hfz49_3, hcz49_4, hfz49_4, hcz49_5, hfz49_5, hcz49_6, hfz49_6, hcz49_7, hfz49_7, hcz49_8, hfz49_8⟩ := cfz9 BK177.out
              go_wp2
              go_ret
              exact ⟨by first | rfl | (simp [errW_none, errW_some] <;> rfl) | (simp [*, errW_none, errW_some] <;> rfl), by repeat (first | (with_reducible first | exact HB.out | apply below_alloc | apply pw_below_drewN | apply below_drew1 | refine below_set ?_ GE177.out) | exact HB.out)⟩
           ·rw [if_neg c44] at H
            have c44b0 : decide ((a0_6.size : Int) ≤ 2052) = false := decide_eq_false c44
            have c44b1 : decide (a0_6.size ≤ 2052) = false := decide_eq_false (by omega)
            clear c44
            obtain rfl := Option.some.inj H
            obtain ⟨hcz50_0, hfz50_0, hcz50_1, hfz50_1, hcz50_2, hfz50_2, hcz50_3, hfz50_3, hcz50_4, hfz50_4, hcz50_5, hfz50_5, hcz50_6, hfz50_6, hcz50_7, hfz50_7, hcz50_8, hfz50_8⟩ := cfz9 BK177.out
            go_wp2
            go_ret
            exact ⟨by first | rfl | (simp [errW_none, errW_some] <;> rfl) | (simp [*, errW_none, errW_some] <;> rfl), by repeat (first | (with_reducible first | exact HB.out | apply below_alloc | apply pw_below_drewN | apply below_drew1 | refine below_set ?_ GE177.out) | exact HB.out)⟩
          ·replace c43 := Bool.eq_false_iff.mpr c43
           subst c43
           have H1 : (some 70) = some r := by rw [if_neg (show ¬ (false = true) by decide)] at H; exact H
           clear H
           have H := H1
           clear H1
           obtain rfl := Option.some.inj H
           obtain ⟨hcz51_0, hfz51_0, hcz51_1, hfz51_1, hcz51_2, hfz51_2, hcz51_3, hfz51_3, hcz51_4, hfz51_4, hcz51_5, hfz51_5, hcz51_6, hfz51_6, hcz51_7, hfz51_7, hcz51_8, hfz51_8⟩ := cfz9 BK177.out
           go_wp2
           go_ret
           exact ⟨by first | rfl | (simp [errW_none, errW_some] <;> rfl) | (simp [*, errW_none, errW_some] <;> rfl), by repeat (first | (with_reducible first | exact HB.out | apply below_alloc | apply pw_below_drewN | apply below_drew1 | refine below_set ?_ GE177.out) | exact HB.out)⟩
         ·rw [if_neg c42] at H
          have c42b0 : (a0_0 == 2) = false := beq_eq_false_iff_ne.mpr c42
          have c42b1 : (a0_0 != 2) = true := bne_iff_ne.mpr c42
          by_cases c52 : a0_0 = 3
          ·rw [if_pos c52] at H
           have c52b0 : (a0_0 == 3) = true := beq_iff_eq.mpr c52
           have c52b1 : (a0_0 != 3) = false := bne_eq_false_iff_eq.mpr c52
           clear c52
           by_cases c53 : (l0_7.length : Int) ≤ 16
           ·rw [if_pos c53] at H
            have c53b0 : decide ((l0_7.length : Int) ≤ 16) = true := decide_eq_true c53
            have c53b1 : decide (l0_7.length ≤ 16) = true := decide_eq_true (by omega)
            clear c53
            replace H := Option.bind_eq_some_iff.mp H
            obtain ⟨t184, A540, H⟩ := H
            replace H : (if t184 = true then ((corncribref07_Writes.f kj27 l0_8).bind fun t185 => (if t185 = true then (if a0_6.toList = ([] : List UInt8) then (if a0_5 = 0 then (some 0) else (some 70)) else (some 70)) else (some 70))) else (some 70)) = some r := H
            have A54 := Aside0.mk A540
            clear A540
            by_cases c55 : t184 = true
            ·subst c55
             have H1 : ((corncribref07_Writes.f kj27 l0_8).bind fun t185 => (if t185 = true then (if a0_6.toList = ([] : List UInt8) then (if a0_5 = 0 then (some 0) else (some 70)) else (some 70)) else (some 70))) = some r := by rw [if_pos rfl] at H; exact H
             clear H
             have H := H1
             clear H1
             replace H := Option.bind_eq_some_iff.mp H
             obtain ⟨t185, A560, H⟩ := H
             replace H : (if t185 = true then (if a0_6.toList = ([] : List UInt8) then (if a0_5 = 0 then (some 0) else (some 70)) else (some 70)) else (some 70)) = some r := H
             have A56 := Aside0.mk A560
             clear A560
             by_cases c57 : t185 = true
             ·subst c57
              have H1 : (if a0_6.toList = ([] : List UInt8) then (if a0_5 = 0 then (some 0) else (some 70)) else (some 70)) = some r := by rw [if_pos rfl] at H; exact H
              clear H
              have H := H1
              clear H1
              by_cases c58 : a0_6.toList = ([] : List UInt8)
              ·rw [if_pos c58] at H
               have c58b0 : (a0_6.toList == ([] : List UInt8)) = true := beq_iff_eq.mpr c58
               have c58b1 : (a0_6.toList != ([] : List UInt8)) = false := bne_eq_false_iff_eq.mpr c58
               clear c58
               by_cases c59 : a0_5 = 0
               ·rw [if_pos c59] at H
                have c59b0 : (a0_5 == 0) = true := beq_iff_eq.mpr c59
                have c59b1 : (a0_5 != 0) = false := bne_eq_false_iff_eq.mpr c59
                clear c59
                obtain rfl := Option.some.inj H
                obtain ⟨hcz60_0, hfz60_0, hcz60_1, hfz60_1, hcz60_2, hfz60_2, hcz60_3, hfz60_3, hcz60_4, hfz60_4, hcz60_5, hfz60_5, hcz60_6, hfz60_6, hcz60_7, hfz60_7, hcz60_8, hfz60_8⟩ := cfz9 BK177.out
                go_wp2_with (first | (go_at_call 21; (with_reducible refine (corncribref07_Rising.calls kj27 _ _ l0_7 true _ ?side1 ?side2 A54.out).mono ?_); (case side1 => repeat (first | exact (Kd.C_below HR0_7.out HB.out) | (with_reducible refine Kd.C_alloc ?_ _) | (with_reducible refine Kd.C_drewN ?_ _) | (with_reducible refine Kd.C_drew ?_))); (case side2 => exact HC0_7.out); rintro e w' ⟨rfl, ⟨nd, rfl⟩⟩) | (go_at_call 33; (with_reducible refine (corncribref07_Writes.calls kj27 _ _ l0_8 true _ ?side1 ?side2 A56.out).mono ?_); (case side1 => repeat (first | exact (Kd.C_below HR0_8.out (by repeat (first | (with_reducible first | exact HB.out | apply below_alloc | apply pw_below_drewN | apply below_drew1 | refine below_set ?_ GE177.out) | exact HB.out))) | (with_reducible refine Kd.C_alloc ?_ _) | (with_reducible refine Kd.C_drewN ?_ _) | (with_reducible refine Kd.C_drew ?_))); (case side2 => exact HC0_8.out); rintro e w61 ⟨rfl, hb⟩; have n0_ := Aside0.mk (blk_below (g := gb177) (o := .cells #[.int .i64 a0_0, .int .i64 a0_1, .int .i64 a0_2, .int .i64 a0_3, .int .i64 a0_4, .int .i64 a0_5, .string a0_6, .slice A0_7 l0_7.length c0_7, .slice A0_8 l0_8.length c0_8] 25 (0, 0)) (by (with_reducible repeat (first | refine blk_drewN ?_ _ | refine blk_drew ?_ | refine blk_alloc ?_ _)); exact BK177.out) hb); have n1_ := Aside0.mk (below_step (by repeat (first | (with_reducible first | exact HB.out | apply below_alloc | apply pw_below_drewN | apply below_drew1 | refine below_set ?_ GE177.out) | exact HB.out)) hb); clear BK177; clear HB; have BK177 := n0_; have HB := n1_; clear n0_ n1_; (try clear hb); (try clear hb2); (try clear hk); (try clear hi); have hcz62_0 : w61.cell? ⟨gb177, 0, none⟩ = some (.int .i64 a0_0) := (blk_cell BK177.out 0).trans rfl; have hcz62_1 : w61.cell? ⟨gb177, 1, none⟩ = some (.int .i64 a0_1) := (blk_cell BK177.out 1).trans rfl; have hcz62_2 : w61.cell? ⟨gb177, 2, none⟩ = some (.int .i64 a0_2) := (blk_cell BK177.out 2).trans rfl; have hcz62_3 : w61.cell? ⟨gb177, 3, none⟩ = some (.int .i64 a0_3) := (blk_cell BK177.out 3).trans rfl; have hcz62_4 : w61.cell? ⟨gb177, 4, none⟩ = some (.int .i64 a0_4) := (blk_cell BK177.out 4).trans rfl; have hcz62_5 : w61.cell? ⟨gb177, 5, none⟩ = some (.int .i64 a0_5) := (blk_cell BK177.out 5).trans rfl; have hcz62_6 : w61.cell? ⟨gb177, 6, none⟩ = some (.string a0_6) := (blk_cell BK177.out 6).trans rfl; have hcz62_7 : w61.cell? ⟨gb177, 7, none⟩ = some (.slice A0_7 l0_7.length c0_7) := (blk_cell BK177.out 7).trans rfl; have hcz62_8 : w61.cell? ⟨gb177, 8, none⟩ = some (.slice A0_8 l0_8.length c0_8) := (blk_cell BK177.out 8).trans rfl; have hfz62_0 := blk_frozen BK177.out 0; have hfz62_1 := blk_frozen BK177.out 1; have hfz62_2 := blk_frozen BK177.out 2; have hfz62_3 := blk_frozen BK177.out 3; have hfz62_4 := blk_frozen BK177.out 4; have hfz62_5 := blk_frozen BK177.out 5; have hfz62_6 := blk_frozen BK177.out 6; have hfz62_7 := blk_frozen BK177.out 7; have hfz62_8 := blk_frozen BK177.out 8))
                go_ret
                exact ⟨by first | rfl | (simp [errW_none, errW_some] <;> rfl) | (simp [*, errW_none, errW_some] <;> rfl), by repeat (first | (with_reducible first | exact HB.out | apply below_alloc | apply pw_below_drewN | apply below_drew1 | refine below_set ?_ GE177.out) | exact HB.out)⟩
               ·rw [if_neg c59] at H
                have c59b0 : (a0_5 == 0) = false := beq_eq_false_iff_ne.mpr c59
                have c59b1 : (a0_5 != 0) = true := bne_iff_ne.mpr c59
                obtain rfl := Option.some.inj H
                obtain ⟨hcz63_0, hfz63_0, hcz63_1, hfz63_1, hcz63_2, hfz63_2, hcz63_3, hfz63_3, hcz63_4, hfz63_4, hcz63_5, hfz63_5, hcz63_6, hfz63_6, hcz63_7, hfz63_7, hcz63_8, hfz63_8⟩ := cfz9 BK177.out
                go_wp2_with (first | (go_at_call 21; (with_reducible refine (corncribref07_Rising.calls kj27 _ _ l0_7 true _ ?side1 ?side2 A54.out).mono ?_); (case side1 => repeat (first | exact (Kd.C_below HR0_7.out HB.out) | (with_reducible refine Kd.C_alloc ?_ _) | (with_reducible refine Kd.C_drewN ?_ _) | (with_reducible refine Kd.C_drew ?_))); (case side2 => exact HC0_7.out); rintro e w' ⟨rfl, ⟨nd, rfl⟩⟩) | (go_at_call 33; (with_reducible refine (corncribref07_Writes.calls kj27 _ _ l0_8 true _ ?side1 ?side2 A56.out).mono ?_); (case side1 => repeat (first | exact (Kd.C_below HR0_8.out (by repeat (first | (with_reducible first | exact HB.out | apply below_alloc | apply pw_below_drewN | apply below_drew1 | refine below_set ?_ GE177.out) | exact HB.out))) | (with_reducible refine Kd.C_alloc ?_ _) | (with_reducible refine Kd.C_drewN ?_ _) | (with_reducible refine Kd.C_drew ?_))); (case side2 => exact HC0_8.out); rintro e w64 ⟨rfl, hb⟩; have n0_ := Aside0.mk (blk_below (g := gb177) (o := .cells #[.int .i64 a0_0, .int .i64 a0_1, .int .i64 a0_2, .int .i64 a0_3, .int .i64 a0_4, .int .i64 a0_5, .string a0_6, .slice A0_7 l0_7.length c0_7, .slice A0_8 l0_8.length c0_8] 25 (0, 0)) (by (with_reducible repeat (first | refine blk_drewN ?_ _ | refine blk_drew ?_ | refine blk_alloc ?_ _)); exact BK177.out) hb); have n1_ := Aside0.mk (below_step (by repeat (first | (with_reducible first | exact HB.out | apply below_alloc | apply pw_below_drewN | apply below_drew1 | refine below_set ?_ GE177.out) | exact HB.out)) hb); clear BK177; clear HB; have BK177 := n0_; have HB := n1_; clear n0_ n1_; (try clear hb); (try clear hb2); (try clear hk); (try clear hi); have hcz65_0 : w64.cell? ⟨gb177, 0, none⟩ = some (.int .i64 a0_0) := (blk_cell BK177.out 0).trans rfl; have hcz65_1 : w64.cell? ⟨gb177, 1, none⟩ = some (.int .i64 a0_1) := (blk_cell BK177.out 1).trans rfl; have hcz65_2 : w64.cell? ⟨gb177, 2, none⟩ = some (.int .i64 a0_2) := (blk_cell BK177.out 2).trans rfl; have hcz65_3 : w64.cell? ⟨gb177, 3, none⟩ = some (.int .i64 a0_3) := (blk_cell BK177.out 3).trans rfl; have hcz65_4 : w64.cell? ⟨gb177, 4, none⟩ = some (.int .i64 a0_4) := (blk_cell BK177.out 4).trans rfl; have hcz65_5 : w64.cell? ⟨gb177, 5, none⟩ = some (.int .i64 a0_5) := (blk_cell BK177.out 5).trans rfl; have hcz65_6 : w64.cell? ⟨gb177, 6, none⟩ = some (.string a0_6) := (blk_cell BK177.out 6).trans rfl; have hcz65_7 : w64.cell? ⟨gb177, 7, none⟩ = some (.slice A0_7 l0_7.length c0_7) := (blk_cell BK177.out 7).trans rfl; have hcz65_8 : w64.cell? ⟨gb177, 8, none⟩ = some (.slice A0_8 l0_8.length c0_8) := (blk_cell BK177.out 8).trans rfl; have hfz65_0 := blk_frozen BK177.out 0; have hfz65_1 := blk_frozen BK177.out 1; have hfz65_2 := blk_frozen BK177.out 2; have hfz65_3 := blk_frozen BK177.out 3; have hfz65_4 := blk_frozen BK177.out 4; have hfz65_5 := blk_frozen BK177.out 5; have hfz65_6 := blk_frozen BK177.out 6; have hfz65_7 := blk_frozen BK177.out 7; have hfz65_8 := blk_frozen BK177.out 8))
                go_ret
                exact ⟨by first | rfl | (simp [errW_none, errW_some] <;> rfl) | (simp [*, errW_none, errW_some] <;> rfl), by repeat (first | (with_reducible first | exact HB.out | apply below_alloc | apply pw_below_drewN | apply below_drew1 | refine below_set ?_ GE177.out) | exact HB.out)⟩
              ·rw [if_neg c58] at H
               have c58b0 : (a0_6.toList == ([] : List UInt8)) = false := beq_eq_false_iff_ne.mpr c58
               have c58b1 : (a0_6.toList != ([] : List UInt8)) = true := bne_iff_ne.mpr c58
               obtain rfl := Option.some.inj H
               obtain ⟨hcz66_0, hfz66_0, hcz66_1, hfz66_1, hcz66_2, hfz66_2, hcz66_3, hfz66_3, hcz66_4, hfz66_4, hcz66_5, hfz66_5, hcz66_6, hfz66_6, hcz66_7, hfz66_7, hcz66_8, hfz66_8⟩ := cfz9 BK177.out
               go_wp2_with (first | (go_at_call 21; (with_reducible refine (corncribref07_Rising.calls kj27 _ _ l0_7 true _ ?side1 ?side2 A54.out).mono ?_); (case side1 => repeat (first | exact (Kd.C_below HR0_7.out HB.out) | (with_reducible refine Kd.C_alloc ?_ _) | (with_reducible refine Kd.C_drewN ?_ _) | (with_reducible refine Kd.C_drew ?_))); (case side2 => exact HC0_7.out); rintro e w' ⟨rfl, ⟨nd, rfl⟩⟩) | (go_at_call 33; (with_reducible refine (corncribref07_Writes.calls kj27 _ _ l0_8 true _ ?side1 ?side2 A56.out).mono ?_); (case side1 => repeat (first | exact (Kd.C_below HR0_8.out (by repeat (first | (with_reducible first | exact HB.out | apply below_alloc | apply pw_below_drewN | apply below_drew1 | refine below_set ?_ GE177.out) | exact HB.out))) | (with_reducible refine Kd.C_alloc ?_ _) | (with_reducible refine Kd.C_drewN ?_ _) | (with_reducible refine Kd.C_drew ?_))); (case side2 => exact HC0_8.out); rintro e w67 ⟨rfl, hb⟩; have n0_ := Aside0.mk (blk_below (g := gb177) (o := .cells #[.int .i64 a0_0, .int .i64 a0_1, .int .i64 a0_2, .int .i64 a0_3, .int .i64 a0_4, .int .i64 a0_5, .string a0_6, .slice A0_7 l0_7.length c0_7, .slice A0_8 l0_8.length c0_8] 25 (0, 0)) (by (with_reducible repeat (first | refine blk_drewN ?_ _ | refine blk_drew ?_ | refine blk_alloc ?_ _)); exact BK177.out) hb); have n1_ := Aside0.mk (below_step (by repeat (first | (with_reducible first | exact HB.out | apply below_alloc | apply pw_below_drewN | apply below_drew1 | refine below_set ?_ GE177.out) | exact HB.out)) hb); clear BK177; clear HB; have BK177 := n0_; have HB := n1_; clear n0_ n1_; (try clear hb); (try clear hb2); (try clear hk); (try clear hi); have hcz68_0 : w67.cell? ⟨gb177, 0, none⟩ = some (.int .i64 a0_0) := (blk_cell BK177.out 0).trans rfl; have hcz68_1 : w67.cell? ⟨gb177, 1, none⟩ = some (.int .i64 a0_1) := (blk_cell BK177.out 1).trans rfl; have hcz68_2 : w67.cell? ⟨gb177, 2, none⟩ = some (.int .i64 a0_2) := (blk_cell BK177.out 2).trans rfl; have hcz68_3 : w67.cell? ⟨gb177, 3, none⟩ = some (.int .i64 a0_3) := (blk_cell BK177.out 3).trans rfl; have hcz68_4 : w67.cell? ⟨gb177, 4, none⟩ = some (.int .i64 a0_4) := (blk_cell BK177.out 4).trans rfl; have hcz68_5 : w67.cell? ⟨gb177, 5, none⟩ = some (.int .i64 a0_5) := (blk_cell BK177.out 5).trans rfl; have hcz68_6 : w67.cell? ⟨gb177, 6, none⟩ = some (.string a0_6) := (blk_cell BK177.out 6).trans rfl; have hcz68_7 : w67.cell? ⟨gb177, 7, none⟩ = some (.slice A0_7 l0_7.length c0_7) := (blk_cell BK177.out 7).trans rfl; have hcz68_8 : w67.cell? ⟨gb177, 8, none⟩ = some (.slice A0_8 l0_8.length c0_8) := (blk_cell BK177.out 8).trans rfl; have hfz68_0 := blk_frozen BK177.out 0; have hfz68_1 := blk_frozen BK177.out 1; have hfz68_2 := blk_frozen BK177.out 2; have hfz68_3 := blk_frozen BK177.out 3; have hfz68_4 := blk_frozen BK177.out 4; have hfz68_5 := blk_frozen BK177.out 5; have hfz68_6 := blk_frozen BK177.out 6; have hfz68_7 := blk_frozen BK177.out 7; have hfz68_8 := blk_frozen BK177.out 8))
               go_ret
               exact ⟨by first | rfl | (simp [errW_none, errW_some] <;> rfl) | (simp [*, errW_none, errW_some] <;> rfl), by repeat (first | (with_reducible first | exact HB.out | apply below_alloc | apply pw_below_drewN | apply below_drew1 | refine below_set ?_ GE177.out) | exact HB.out)⟩
             ·replace c57 := Bool.eq_false_iff.mpr c57
              subst c57
              have H1 : (some 70) = some r := by rw [if_neg (show ¬ (false = true) by decide)] at H; exact H
              clear H
              have H := H1
              clear H1
              obtain rfl := Option.some.inj H
              obtain ⟨hcz69_0, hfz69_0, hcz69_1, hfz69_1, hcz69_2, hfz69_2, hcz69_3, hfz69_3, hcz69_4, hfz69_4, hcz69_5, hfz69_5, hcz69_6, hfz69_6, hcz69_7, hfz69_7, hcz69_8, hfz69_8⟩ := cfz9 BK177.out
              go_wp2_with (first | (go_at_call 21; (with_reducible refine (corncribref07_Rising.calls kj27 _ _ l0_7 true _ ?side1 ?side2 A54.out).mono ?_); (case side1 => repeat (first | exact (Kd.C_below HR0_7.out HB.out) | (with_reducible refine Kd.C_alloc ?_ _) | (with_reducible refine Kd.C_drewN ?_ _) | (with_reducible refine Kd.C_drew ?_))); (case side2 => exact HC0_7.out); rintro e w' ⟨rfl, ⟨nd, rfl⟩⟩) | (go_at_call 33; (with_reducible refine (corncribref07_Writes.calls kj27 _ _ l0_8 false _ ?side1 ?side2 A56.out).mono ?_); (case side1 => repeat (first | exact (Kd.C_below HR0_8.out (by repeat (first | (with_reducible first | exact HB.out | apply below_alloc | apply pw_below_drewN | apply below_drew1 | refine below_set ?_ GE177.out) | exact HB.out))) | (with_reducible refine Kd.C_alloc ?_ _) | (with_reducible refine Kd.C_drewN ?_ _) | (with_reducible refine Kd.C_drew ?_))); (case side2 => exact HC0_8.out); rintro e w70 ⟨rfl, hb⟩; have n0_ := Aside0.mk (blk_below (g := gb177) (o := .cells #[.int .i64 a0_0, .int .i64 a0_1, .int .i64 a0_2, .int .i64 a0_3, .int .i64 a0_4, .int .i64 a0_5, .string a0_6, .slice A0_7 l0_7.length c0_7, .slice A0_8 l0_8.length c0_8] 25 (0, 0)) (by (with_reducible repeat (first | refine blk_drewN ?_ _ | refine blk_drew ?_ | refine blk_alloc ?_ _)); exact BK177.out) hb); have n1_ := Aside0.mk (below_step (by repeat (first | (with_reducible first | exact HB.out | apply below_alloc | apply pw_below_drewN | apply below_drew1 | refine below_set ?_ GE177.out) | exact HB.out)) hb); clear BK177; clear HB; have BK177 := n0_; have HB := n1_; clear n0_ n1_; (try clear hb); (try clear hb2); (try clear hk); (try clear hi)))
              go_ret
              exact ⟨by first | rfl | (simp [errW_none, errW_some] <;> rfl) | (simp [*, errW_none, errW_some] <;> rfl), by repeat (first | (with_reducible first | exact HB.out | apply below_alloc | apply pw_below_drewN | apply below_drew1 | refine below_set ?_ GE177.out) | exact HB.out)⟩
            ·replace c55 := Bool.eq_false_iff.mpr c55
             subst c55
             have H1 : (some 70) = some r := by rw [if_neg (show ¬ (false = true) by decide)] at H; exact H
             clear H
             have H := H1
             clear H1
             obtain rfl := Option.some.inj H
             obtain ⟨hcz71_0, hfz71_0, hcz71_1, hfz71_1, hcz71_2, hfz71_2, hcz71_3, hfz71_3, hcz71_4, hfz71_4, hcz71_5, hfz71_5, hcz71_6, hfz71_6, hcz71_7, hfz71_7, hcz71_8, hfz71_8⟩ := cfz9 BK177.out
             go_wp2_with (first | (go_at_call 21; (with_reducible refine (corncribref07_Rising.calls kj27 _ _ l0_7 false _ ?side1 ?side2 A54.out).mono ?_); (case side1 => repeat (first | exact (Kd.C_below HR0_7.out HB.out) | (with_reducible refine Kd.C_alloc ?_ _) | (with_reducible refine Kd.C_drewN ?_ _) | (with_reducible refine Kd.C_drew ?_))); (case side2 => exact HC0_7.out); rintro e w' ⟨rfl, ⟨nd, rfl⟩⟩))
             go_ret
             exact ⟨by first | rfl | (simp [errW_none, errW_some] <;> rfl) | (simp [*, errW_none, errW_some] <;> rfl), by repeat (first | (with_reducible first | exact HB.out | apply below_alloc | apply pw_below_drewN | apply below_drew1 | refine below_set ?_ GE177.out) | exact HB.out)⟩
           ·rw [if_neg c53] at H
            have c53b0 : decide ((l0_7.length : Int) ≤ 16) = false := decide_eq_false c53
            have c53b1 : decide (l0_7.length ≤ 16) = false := decide_eq_false (by omega)
            clear c53
            obtain rfl := Option.some.inj H
            obtain ⟨hcz72_0, hfz72_0, hcz72_1, hfz72_1, hcz72_2, hfz72_2, hcz72_3, hfz72_3, hcz72_4, hfz72_4, hcz72_5, hfz72_5, hcz72_6, hfz72_6, hcz72_7, hfz72_7, hcz72_8, hfz72_8⟩ := cfz9 BK177.out
            go_wp2
            go_ret
            exact ⟨by first | rfl | (simp [errW_none, errW_some] <;> rfl) | (simp [*, errW_none, errW_some] <;> rfl), by repeat (first | (with_reducible first | exact HB.out | apply below_alloc | apply pw_below_drewN | apply below_drew1 | refine below_set ?_ GE177.out) | exact HB.out)⟩
          ·rw [if_neg c52] at H
           have c52b0 : (a0_0 == 3) = false := beq_eq_false_iff_ne.mpr c52
           have c52b1 : (a0_0 != 3) = true := bne_iff_ne.mpr c52
           by_cases c73 : a0_0 = 4
           ·rw [if_pos c73] at H
            have c73b0 : (a0_0 == 4) = true := beq_iff_eq.mpr c73
            have c73b1 : (a0_0 != 4) = false := bne_eq_false_iff_eq.mpr c73
            clear c73
            by_cases c74 : x4_27 = true
            ·subst c74
             have H1 : (if a0_5 ≤ 1 then (some 0) else (some 70)) = some r := by rw [if_pos rfl] at H; exact H
             clear H
             have H := H1
             clear H1
             by_cases c75 : a0_5 ≤ 1
             ·rw [if_pos c75] at H
              have c75b0 : decide (a0_5 ≤ 1) = true := decide_eq_true c75
              clear c75
              obtain rfl := Option.some.inj H
              obtain ⟨hcz76_0, hfz76_0, hcz76_1, hfz76_1, hcz76_2, hfz76_2, hcz76_3, hfz76_3, hcz76_4, hfz76_4, hcz76_5, hfz76_5, hcz76_6, hfz76_6, hcz76_7, hfz76_7, hcz76_8, hfz76_8⟩ := cfz9 BK177.out
              go_wp2
              go_ret
              exact ⟨by first | rfl | (simp [errW_none, errW_some] <;> rfl) | (simp [*, errW_none, errW_some] <;> rfl), by repeat (first | (with_reducible first | exact HB.out | apply below_alloc | apply pw_below_drewN | apply below_drew1 | refine below_set ?_ GE177.out) | exact HB.out)⟩
             ·rw [if_neg c75] at H
              have c75b0 : decide (a0_5 ≤ 1) = false := decide_eq_false c75
              clear c75
              obtain rfl := Option.some.inj H
              obtain ⟨hcz77_0, hfz77_0, hcz77_1, hfz77_1, hcz77_2, hfz77_2, hcz77_3, hfz77_3, hcz77_4, hfz77_4, hcz77_5, hfz77_5, hcz77_6, hfz77_6, hcz77_7, hfz77_7, hcz77_8, hfz77_8⟩ := cfz9 BK177.out
              go_wp2
              go_ret
              exact ⟨by first | rfl | (simp [errW_none, errW_some] <;> rfl) | (simp [*, errW_none, errW_some] <;> rfl), by repeat (first | (with_reducible first | exact HB.out | apply below_alloc | apply pw_below_drewN | apply below_drew1 | refine below_set ?_ GE177.out) | exact HB.out)⟩
            ·replace c74 := Bool.eq_false_iff.mpr c74
             subst c74
             have H1 : (some 70) = some r := by rw [if_neg (show ¬ (false = true) by decide)] at H; exact H
             clear H
             have H := H1
             clear H1
             obtain rfl := Option.some.inj H
             obtain ⟨hcz78_0, hfz78_0, hcz78_1, hfz78_1, hcz78_2, hfz78_2, hcz78_3, hfz78_3, hcz78_4, hfz78_4, hcz78_5, hfz78_5, hcz78_6, hfz78_6, hcz78_7, hfz78_7, hcz78_8, hfz78_8⟩ := cfz9 BK177.out
             go_wp2
             go_ret
             exact ⟨by first | rfl | (simp [errW_none, errW_some] <;> rfl) | (simp [*, errW_none, errW_some] <;> rfl), by repeat (first | (with_reducible first | exact HB.out | apply below_alloc | apply pw_below_drewN | apply below_drew1 | refine below_set ?_ GE177.out) | exact HB.out)⟩
           ·rw [if_neg c73] at H
            have c73b0 : (a0_0 == 4) = false := beq_eq_false_iff_ne.mpr c73
            have c73b1 : (a0_0 != 4) = true := bne_iff_ne.mpr c73
            have HC79 := Aside0.mk H
            clear H
            obtain ⟨hcz80_0, hfz80_0, hcz80_1, hfz80_1, hcz80_2, hfz80_2, hcz80_3, hfz80_3, hcz80_4, hfz80_4, hcz80_5, hfz80_5, hcz80_6, hfz80_6, hcz80_7, hfz80_7, hcz80_8, hfz80_8⟩ := cfz9 BK177.out
            go_upto_if 138 with (fail)
            go_cut [138] (fun v138 wc => ∃ (kq : Nat) (x138_78 : Bool), v138 = .bool x138_78 ∧ Aside0 (corncribref07_Check.j3 kq x4_27 a0_0 x138_78 a0_0 a0_1 a0_2 a0_3 a0_4 a0_5 a0_6 l0_7 l0_8 = some r) ∧ Aside0 (kq ≤ kj27) ∧ Aside0 (wc.heap[gb177]? = some (.cells #[.int .i64 a0_0, .int .i64 a0_1, .int .i64 a0_2, .int .i64 a0_3, .int .i64 a0_4, .int .i64 a0_5, .string a0_6, (.slice A0_7 l0_7.length c0_7), (.slice A0_8 l0_8.length c0_8)] 25 (0, 0))) ∧ Aside0 (Below w.heap.size w wc))
            case first =>
             have H := HC79.out
             clear HC79
             by_cases c81 : a0_0 = 5
             ·rw [if_pos c81] at H
              have c81b0 : (a0_0 == 5) = true := beq_iff_eq.mpr c81
              have c81b1 : (a0_0 != 5) = false := bne_eq_false_iff_eq.mpr c81
              clear c81
              (first | rw [c81b0] | (simp only [i64_w, i32_w]; rw [c81b0]) | skip)
              have H' := Aside0.mk H
              clear H
              go_wp2
              go_meet
              case rel => exact ⟨_, ((a0_0 == 5)), (by first | rfl | (simp; done) | (simp [*]; done) | (simp [bne_nil_]; done)), H', ⟨by have := HJ1.out; have := HJ19.out; have := HJ27.out; first | omega | exact Nat.le_refl _⟩, ⟨by (with_reducible repeat (first | refine blk_drewN ?_ _ | refine blk_drew ?_ | refine blk_alloc ?_ _)); exact BK177.out⟩, ⟨by repeat (first | (with_reducible first | exact HB.out | apply below_alloc | apply pw_below_drewN | apply below_drew1 | refine below_set ?_ GE177.out) | exact HB.out)⟩⟩
             ·rw [if_neg c81] at H
              have c81b0 : (a0_0 == 5) = false := beq_eq_false_iff_ne.mpr c81
              have c81b1 : (a0_0 != 5) = true := bne_iff_ne.mpr c81
              (first | rw [c81b0] | (simp only [i64_w, i32_w]; rw [c81b0]) | skip)
              by_cases c82 : a0_0 = 6
              ·rw [if_pos c82] at H
               have c82b0 : (a0_0 == 6) = true := beq_iff_eq.mpr c82
               have c82b1 : (a0_0 != 6) = false := bne_eq_false_iff_eq.mpr c82
               clear c82
               have H' := Aside0.mk H
               clear H
               go_wp2
               go_meet
               case rel => exact ⟨_, ((a0_0 == 6)), (by first | rfl | (simp; done) | (simp [*]; done) | (simp [bne_nil_]; done)), H', ⟨by have := HJ1.out; have := HJ19.out; have := HJ27.out; first | omega | exact Nat.le_refl _⟩, ⟨by (with_reducible repeat (first | refine blk_drewN ?_ _ | refine blk_drew ?_ | refine blk_alloc ?_ _)); exact BK177.out⟩, ⟨by repeat (first | (with_reducible first | exact HB.out | apply below_alloc | apply pw_below_drewN | apply below_drew1 | refine below_set ?_ GE177.out) | exact HB.out)⟩⟩
              ·rw [if_neg c82] at H
               have c82b0 : (a0_0 == 6) = false := beq_eq_false_iff_ne.mpr c82
               have c82b1 : (a0_0 != 6) = true := bne_iff_ne.mpr c82
               have H' := Aside0.mk H
               clear H
               go_wp2
               go_meet
               case rel => exact ⟨_, ((a0_0 == 7)), (by first | rfl | (simp; done) | (simp [*]; done) | (simp [bne_nil_]; done)), H', ⟨by have := HJ1.out; have := HJ19.out; have := HJ27.out; first | omega | exact Nat.le_refl _⟩, ⟨by (with_reducible repeat (first | refine blk_drewN ?_ _ | refine blk_drew ?_ | refine blk_alloc ?_ _)); exact BK177.out⟩, ⟨by repeat (first | (with_reducible first | exact HB.out | apply below_alloc | apply pw_below_drewN | apply below_drew1 | refine below_set ?_ GE177.out) | exact HB.out)⟩⟩
            case rest =>
             clear HC79
             (try clear p2); (try clear c3); (try clear c4); (try clear c5); (try clear c7); (try clear c8); (try clear c34); (try clear c34b0); (try clear c34b1); (try clear c35); (try clear c36); (try clear c36b0); (try clear c36b1); (try clear c37); (try clear c37b0); (try clear c37b1); (try clear c42); (try clear c42b0); (try clear c42b1); (try clear c43); (try clear c44); (try clear c44b0); (try clear c44b1); (try clear c45); (try clear c45b0); (try clear c45b1); (try clear c47); (try clear c47b0); (try clear c47b1); (try clear c52); (try clear c52b0); (try clear c52b1); (try clear c53); (try clear c53b0); (try clear c53b1); (try clear c55); (try clear c57); (try clear c58); (try clear c58b0); (try clear c58b1); (try clear c59); (try clear c59b0); (try clear c59b1); (try clear c73); (try clear c73b0); (try clear c73b1); (try clear c74); (try clear c75); (try clear c75b0); (try clear c81); (try clear c81b0); (try clear c81b1); (try clear c82); (try clear c82b0); (try clear c82b1); (try clear hcz39_0); (try clear hcz39_1); (try clear hcz39_2); (try clear hcz39_3); (try clear hcz39_4); (try clear hcz39_5); (try clear hcz39_6); (try clear hcz39_7); (try clear hcz39_8); (try clear hcz40_0); (try clear hcz40_1); (try clear hcz40_2); (try clear hcz40_3); (try clear hcz40_4); (try clear hcz40_5); (try clear hcz40_6); (try clear hcz40_7); (try clear hcz40_8); (try clear hcz41_0); (try clear hcz41_1); (try clear hcz41_2); (try clear hcz41_3); (try clear hcz41_4); (try clear hcz41_5); (try clear hcz41_6); (try clear hcz41_7); (try clear hcz41_8); (try clear hcz46_0); (try clear hcz46_1); (try clear hcz46_2); (try clear hcz46_3); (try clear hcz46_4); (try clear hcz46_5); (try clear hcz46_6); (try clear hcz46_7); (try clear hcz46_8); (try clear hcz48_0); (try clear hcz48_1); (try clear hcz48_2); (try clear hcz48_3); (try clear hcz48_4); (try clear hcz48_5); (try clear hcz48_6); (try clear hcz48_7); (try clear hcz48_8); (try clear hcz49_0); (try clear hcz49_1); (try clear hcz49_2); (try clear hcz49_3); (try clear hcz49_4); (try clear hcz49_5); (try clear hcz49_6); (try clear hcz49_7); (try clear hcz49_8); (try clear hcz50_0); (try clear hcz50_1); (try clear hcz50_2); (try clear hcz50_3); (try clear hcz50_4); (try clear hcz50_5); (try clear hcz50_6); (try clear hcz50_7); (try clear hcz50_8); (try clear hcz51_0); (try clear hcz51_1); (try clear hcz51_2); (try clear hcz51_3); (try clear hcz51_4); (try clear hcz51_5); (try clear hcz51_6); (try clear hcz51_7); (try clear hcz51_8); (try clear hcz60_0); (try clear hcz60_1); (try clear hcz60_2); (try clear hcz60_3); (try clear hcz60_4); (try clear hcz60_5); (try clear hcz60_6); (try clear hcz60_7); (try clear hcz60_8); (try clear hcz62_0); (try clear hcz62_1); (try clear hcz62_2); (try clear hcz62_3); (try clear hcz62_4); (try clear hcz62_5); (try clear hcz62_6); (try clear hcz62_7); (try clear hcz62_8); (try clear hcz63_0); (try clear hcz63_1); (try clear hcz63_2); (try clear hcz63_3); (try clear hcz63_4); (try clear hcz63_5); (try clear hcz63_6); (try clear hcz63_7); (try clear hcz63_8); (try clear hcz65_0); (try clear hcz65_1); (try clear hcz65_2); (try clear hcz65_3); (try clear hcz65_4); (try clear hcz65_5); (try clear hcz65_6); (try clear hcz65_7); (try clear hcz65_8); (try clear hcz66_0); (try clear hcz66_1); (try clear hcz66_2); (try clear hcz66_3); (try clear hcz66_4); (try clear hcz66_5); (try clear hcz66_6); (try clear hcz66_7); (try clear hcz66_8); (try clear hcz68_0); (try clear hcz68_1); (try clear hcz68_2); (try clear hcz68_3); (try clear hcz68_4); (try clear hcz68_5); (try clear hcz68_6); (try clear hcz68_7); (try clear hcz68_8); (try clear hcz69_0); (try clear hcz69_1); (try clear hcz69_2); (try clear hcz69_3); (try clear hcz69_4); (try clear hcz69_5); (try clear hcz69_6); (try clear hcz69_7); (try clear hcz69_8); (try clear hcz71_0); (try clear hcz71_1); (try clear hcz71_2); (try clear hcz71_3); (try clear hcz71_4); (try clear hcz71_5); (try clear hcz71_6); (try clear hcz71_7); (try clear hcz71_8); (try clear hcz72_0); (try clear hcz72_1); (try clear hcz72_2); (try clear hcz72_3); (try clear hcz72_4); (try clear hcz72_5); (try clear hcz72_6); (try clear hcz72_7); (try clear hcz72_8); (try clear hcz76_0); (try clear hcz76_1); (try clear hcz76_2); (try clear hcz76_3); (try clear hcz76_4); (try clear hcz76_5); (try clear hcz76_6); (try clear hcz76_7); (try clear hcz76_8); (try clear hcz77_0); (try clear hcz77_1); (try clear hcz77_2); (try clear hcz77_3); (try clear hcz77_4); (try clear hcz77_5); (try clear hcz77_6); (try clear hcz77_7); (try clear hcz77_8); (try clear hcz78_0); (try clear hcz78_1); (try clear hcz78_2); (try clear hcz78_3); (try clear hcz78_4); (try clear hcz78_5); (try clear hcz78_6); (try clear hcz78_7); (try clear hcz78_8); (try clear hcz80_0); (try clear hcz80_1); (try clear hcz80_2); (try clear hcz80_3); (try clear hcz80_4); (try clear hcz80_5); (try clear hcz80_6); (try clear hcz80_7); (try clear hcz80_8); (try clear hfz38_0); (try clear hfz38_1); (try clear hfz38_2); (try clear hfz38_3); (try clear hfz38_4); (try clear hfz38_5); (try clear hfz38_6); (try clear hfz38_7); (try clear hfz38_8); (try clear hfz39_0); (try clear hfz39_1); (try clear hfz39_2); (try clear hfz39_3); (try clear hfz39_4); (try clear hfz39_5); (try clear hfz39_6); (try clear hfz39_7); (try clear hfz39_8); (try clear hfz40_0); (try clear hfz40_1); (try clear hfz40_2); (try clear hfz40_3); (try clear hfz40_4); (try clear hfz40_5); (try clear hfz40_6); (try clear hfz40_7); (try clear hfz40_8); (try clear hfz41_0); (try clear hfz41_1); (try clear hfz41_2); (try clear hfz41_3); (try clear hfz41_4); (try clear hfz41_5); (try clear hfz41_6); (try clear hfz41_7); (try clear hfz41_8); (try clear hfz46_0); (try clear hfz46_1); (try clear hfz46_2); (try clear hfz46_3); (try clear hfz46_4); (try clear hfz46_5); (try clear hfz46_6); (try clear hfz46_7); (try clear hfz46_8); (try clear hfz48_0); (try clear hfz48_1); (try clear hfz48_2); (try clear hfz48_3); (try clear hfz48_4); (try clear hfz48_5); (try clear hfz48_6); (try clear hfz48_7); (try clear hfz48_8); (try clear hfz49_0); (try clear hfz49_1); (try clear hfz49_2); (try clear hfz49_3); (try clear hfz49_4); (try clear hfz49_5); (try clear hfz49_6); (try clear hfz49_7); (try clear hfz49_8); (try clear hfz50_0); (try clear hfz50_1); (try clear hfz50_2); (try clear hfz50_3); (try clear hfz50_4); (try clear hfz50_5); (try clear hfz50_6); (try clear hfz50_7); (try clear hfz50_8); (try clear hfz51_0); (try clear hfz51_1); (try clear hfz51_2); (try clear hfz51_3); (try clear hfz51_4); (try clear hfz51_5); (try clear hfz51_6); (try clear hfz51_7); (try clear hfz51_8); (try clear hfz60_0); (try clear hfz60_1); (try clear hfz60_2); (try clear hfz60_3); (try clear hfz60_4); (try clear hfz60_5); (try clear hfz60_6); (try clear hfz60_7); (try clear hfz60_8); (try clear hfz62_0); (try clear hfz62_1); (try clear hfz62_2); (try clear hfz62_3); (try clear hfz62_4); (try clear hfz62_5); (try clear hfz62_6); (try clear hfz62_7); (try clear hfz62_8); (try clear hfz63_0); (try clear hfz63_1); (try clear hfz63_2); (try clear hfz63_3); (try clear hfz63_4); (try clear hfz63_5); (try clear hfz63_6); (try clear hfz63_7); (try clear hfz63_8); (try clear hfz65_0); (try clear hfz65_1); (try clear hfz65_2); (try clear hfz65_3); (try clear hfz65_4); (try clear hfz65_5); (try clear hfz65_6); (try clear hfz65_7); (try clear hfz65_8); (try clear hfz66_0); (try clear hfz66_1); (try clear hfz66_2); (try clear hfz66_3); (try clear hfz66_4); (try clear hfz66_5); (try clear hfz66_6); (try clear hfz66_7); (try clear hfz66_8); (try clear hfz68_0); (try clear hfz68_1); (try clear hfz68_2); (try clear hfz68_3); (try clear hfz68_4); (try clear hfz68_5); (try clear hfz68_6); (try clear hfz68_7); (try clear hfz68_8); (try clear hfz69_0); (try clear hfz69_1); (try clear hfz69_2); (try clear hfz69_3); (try clear hfz69_4); (try clear hfz69_5); (try clear hfz69_6); (try clear hfz69_7); (try clear hfz69_8); (try clear hfz71_0); (try clear hfz71_1); (try clear hfz71_2); (try clear hfz71_3); (try clear hfz71_4); (try clear hfz71_5); (try clear hfz71_6); (try clear hfz71_7); (try clear hfz71_8); (try clear hfz72_0); (try clear hfz72_1); (try clear hfz72_2); (try clear hfz72_3); (try clear hfz72_4); (try clear hfz72_5); (try clear hfz72_6); (try clear hfz72_7); (try clear hfz72_8); (try clear hfz76_0); (try clear hfz76_1); (try clear hfz76_2); (try clear hfz76_3); (try clear hfz76_4); (try clear hfz76_5); (try clear hfz76_6); (try clear hfz76_7); (try clear hfz76_8); (try clear hfz77_0); (try clear hfz77_1); (try clear hfz77_2); (try clear hfz77_3); (try clear hfz77_4); (try clear hfz77_5); (try clear hfz77_6); (try clear hfz77_7); (try clear hfz77_8); (try clear hfz78_0); (try clear hfz78_1); (try clear hfz78_2); (try clear hfz78_3); (try clear hfz78_4); (try clear hfz78_5); (try clear hfz78_6); (try clear hfz78_7); (try clear hfz78_8); (try clear hfz80_0); (try clear hfz80_1); (try clear hfz80_2); (try clear hfz80_3); (try clear hfz80_4); (try clear hfz80_5); (try clear hfz80_6); (try clear hfz80_7); (try clear hfz80_8)
             obtain ⟨kq, x138_78, rfl, HA, HJ78, BK177, HB⟩ := hcut
             cases kq with
             |zero => exact absurd HA.out (by simp [corncribref07_Check.j3])
             |succ kj78 =>
              have H := HA.out
              clear HA
              simp only [corncribref07_Check.j3] at H
              by_cases c83 : x138_78 = true
              ·subst c83
               have H1 : (if x4_27 = true then (if a0_5 = 0 then (some 0) else (some 70)) else (some 70)) = some r := by rw [if_pos rfl] at H; exact H
               clear H
               have H := H1
               clear H1
               by_cases c84 : x4_27 = true
               ·subst c84
                have H1 : (if a0_5 = 0 then (some 0) else (some 70)) = some r := by rw [if_pos rfl] at H; exact H
                clear H
                have H := H1
                clear H1
                by_cases c85 : a0_5 = 0
                ·rw [if_pos c85] at H
                 have c85b0 : (a0_5 == 0) = true := beq_iff_eq.mpr c85
                 have c85b1 : (a0_5 != 0) = false := bne_eq_false_iff_eq.mpr c85
                 clear c85
                 obtain rfl := Option.some.inj H
                 obtain ⟨hcz86_0, hfz86_0, hcz86_1, hfz86_1, hcz86_2, hfz86_2, hcz86_3, hfz86_3, hcz86_4, hfz86_4, hcz86_5, hfz86_5, hcz86_6, hfz86_6, hcz86_7, hfz86_7, hcz86_8, hfz86_8⟩ := cfz9 BK177.out
                 go_wp2
                 go_ret
                 exact ⟨by first | rfl | (simp [errW_none, errW_some] <;> rfl) | (simp [*, errW_none, errW_some] <;> rfl), by repeat (first | (with_reducible first | exact HB.out | apply below_alloc | apply pw_below_drewN | apply below_drew1 | refine below_set ?_ GE177.out) | exact HB.out)⟩
                ·rw [if_neg c85] at H
                 have c85b0 : (a0_5 == 0) = false := beq_eq_false_iff_ne.mpr c85
                 have c85b1 : (a0_5 != 0) = true := bne_iff_ne.mpr c85
                 obtain rfl := Option.some.inj H
                 obtain ⟨hcz87_0, hfz87_0, hcz87_1, hfz87_1, hcz87_2, hfz87_2, hcz87_3, hfz87_3, hcz87_4, hfz87_4, hcz87_5, hfz87_5, hcz87_6, hfz87_6, hcz87_7, hfz87_7, hcz87_8, hfz87_8⟩ := cfz9 BK177.out
                 go_wp2
                 go_ret
                 exact ⟨by first | rfl | (simp [errW_none, errW_some] <;> rfl) | (simp [*, errW_none, errW_some] <;> rfl), by repeat (first | (with_reducible first | exact HB.out | apply below_alloc | apply pw_below_drewN | apply below_drew1 | refine below_set ?_ GE177.out) | exact HB.out)⟩
               ·replace c84 := Bool.eq_false_iff.mpr c84
                subst c84
                have H1 : (some 70) = some r := by rw [if_neg (show ¬ (false = true) by decide)] at H; exact H
                clear H
                have H := H1
                clear H1
                obtain rfl := Option.some.inj H
                go_wp2
                go_ret
                exact ⟨by first | rfl | (simp [errW_none, errW_some] <;> rfl) | (simp [*, errW_none, errW_some] <;> rfl), by repeat (first | (with_reducible first | exact HB.out | apply below_alloc | apply pw_below_drewN | apply below_drew1 | refine below_set ?_ GE177.out) | exact HB.out)⟩
              ·replace c83 := Bool.eq_false_iff.mpr c83
               subst c83
               have H1 : (if a0_0 = 8 then (if x4_27 = true then (if a0_5 ≤ 2 then (some 0) else (some 70)) else (some 70)) else (some 70)) = some r := by rw [if_neg (show ¬ (false = true) by decide)] at H; exact H
               clear H
               have H := H1
               clear H1
               by_cases c88 : a0_0 = 8
               ·rw [if_pos c88] at H
                have c88b0 : (a0_0 == 8) = true := beq_iff_eq.mpr c88
                have c88b1 : (a0_0 != 8) = false := bne_eq_false_iff_eq.mpr c88
                clear c88
                by_cases c89 : x4_27 = true
                ·subst c89
                 have H1 : (if a0_5 ≤ 2 then (some 0) else (some 70)) = some r := by rw [if_pos rfl] at H; exact H
                 clear H
                 have H := H1
                 clear H1
                 by_cases c90 : a0_5 ≤ 2
                 ·rw [if_pos c90] at H
                  have c90b0 : decide (a0_5 ≤ 2) = true := decide_eq_true c90
                  clear c90
                  obtain rfl := Option.some.inj H
                  obtain ⟨hcz91_0, hfz91_0, hcz91_1, hfz91_1, hcz91_2, hfz91_2, hcz91_3, hfz91_3, hcz91_4, hfz91_4, hcz91_5, hfz91_5, hcz91_6, hfz91_6, hcz91_7, hfz91_7, hcz91_8, hfz91_8⟩ := cfz9 BK177.out
                  go_wp2
                  go_ret
                  exact ⟨by first | rfl | (simp [errW_none, errW_some] <;> rfl) | (simp [*, errW_none, errW_some] <;> rfl), by repeat (first | (with_reducible first | exact HB.out | apply below_alloc | apply pw_below_drewN | apply below_drew1 | refine below_set ?_ GE177.out) | exact HB.out)⟩
                 ·rw [if_neg c90] at H
                  have c90b0 : decide (a0_5 ≤ 2) = false := decide_eq_false c90
                  clear c90
                  obtain rfl := Option.some.inj H
                  obtain ⟨hcz92_0, hfz92_0, hcz92_1, hfz92_1, hcz92_2, hfz92_2, hcz92_3, hfz92_3, hcz92_4, hfz92_4, hcz92_5, hfz92_5, hcz92_6, hfz92_6, hcz92_7, hfz92_7, hcz92_8, hfz92_8⟩ := cfz9 BK177.out
                  go_wp2
                  go_ret
                  exact ⟨by first | rfl | (simp [errW_none, errW_some] <;> rfl) | (simp [*, errW_none, errW_some] <;> rfl), by repeat (first | (with_reducible first | exact HB.out | apply below_alloc | apply pw_below_drewN | apply below_drew1 | refine below_set ?_ GE177.out) | exact HB.out)⟩
                ·replace c89 := Bool.eq_false_iff.mpr c89
                 subst c89
                 have H1 : (some 70) = some r := by rw [if_neg (show ¬ (false = true) by decide)] at H; exact H
                 clear H
                 have H := H1
                 clear H1
                 obtain rfl := Option.some.inj H
                 go_wp2
                 go_ret
                 exact ⟨by first | rfl | (simp [errW_none, errW_some] <;> rfl) | (simp [*, errW_none, errW_some] <;> rfl), by repeat (first | (with_reducible first | exact HB.out | apply below_alloc | apply pw_below_drewN | apply below_drew1 | refine below_set ?_ GE177.out) | exact HB.out)⟩
               ·rw [if_neg c88] at H
                have c88b0 : (a0_0 == 8) = false := beq_eq_false_iff_ne.mpr c88
                have c88b1 : (a0_0 != 8) = true := bne_iff_ne.mpr c88
                obtain rfl := Option.some.inj H
                go_wp2
                go_ret
                exact ⟨by first | rfl | (simp [errW_none, errW_some] <;> rfl) | (simp [*, errW_none, errW_some] <;> rfl), by repeat (first | (with_reducible first | exact HB.out | apply below_alloc | apply pw_below_drewN | apply below_drew1 | refine below_set ?_ GE177.out) | exact HB.out)⟩
end Go.Proofs.Ytelgpkbnahgdoaa.Al

namespace Go.Proofs.Ytelgpkbnahgdoaa.Al
open Go.RowKit Go.Proofs.YtelgpkbnahgdoaaW.PrintWords Go.Proofs.YtelgpkbnahgdoaaW.PrintLast Go.Proofs.YtelgpkbnahgdoaaW.PrintMore
attribute [local go_sem] max2_int min2_int max_two min_two max_three min_three max_four min_four   -- for this text's walks alone
set_option linter.unusedVariables false
set_option linter.unusedSimpArgs false
def corncribref07_One.f (a0 : Bool) : Option (Int) := if a0 = true then (some 1) else (some 0)
set_option maxHeartbeats 8000000 in
set_option maxRecDepth 100000 in
theorem corncribref07_One.calls (a0 : Bool) (r : Int) (w : World) (h : corncribref07_One.f a0 = some r) :
  Calls Try.prog 43 #[.bool a0] w fun e w' => e = .returned (.int .i64 r) ∧ Drawn0 w w' := by
 have H : (if a0 = true then (some 1) else (some 0)) = some r := h
 clear h
 by_cases c2 : a0 = true
 ·subst c2
  have H1 : (some 1) = some r := by rw [if_pos rfl] at H; exact H
  clear H
  have H := H1
  clear H1
  obtain rfl := Option.some.inj H
  go_enter Try.func43, Try.ntmps43
  go_wp2
  go_ret
  exact ⟨by first | rfl | (simp; done) | (simp [*]; done), by repeat (first | exact Drawn0.refl _ | apply Drawn0.step)⟩
 ·replace c2 := Bool.eq_false_iff.mpr c2
  subst c2
  have H1 : (some 0) = some r := by rw [if_neg (show ¬ (false = true) by decide)] at H; exact H
  clear H
  have H := H1
  clear H1
  obtain rfl := Option.some.inj H
  go_enter Try.func43, Try.ntmps43
  go_wp2
  go_ret
  exact ⟨by first | rfl | (simp; done) | (simp [*]; done), by repeat (first | exact Drawn0.refl _ | apply Drawn0.step)⟩
end Go.Proofs.Ytelgpkbnahgdoaa.Al

namespace Go.Proofs.Ytelgpkbnahgdoaa.Al
open Go.RowKit Go.Proofs.YtelgpkbnahgdoaaW.PrintWords Go.Proofs.YtelgpkbnahgdoaaW.PrintLast Go.Proofs.YtelgpkbnahgdoaaW.PrintMore
attribute [local go_sem] max2_int min2_int max_two min_two max_three min_three max_four min_four   -- for this text's walks alone
set_option linter.unusedVariables false
set_option linter.unusedSimpArgs false
def corncribref06_Plain.l0 : Nat → Int → List Int → Option (ByteArray)
 |0, _, _ => none
 |k + 1, x0, x3 => if x0 ≥ 128 then (if x3.length < 140737488355328 then (corncribref06_Plain.l0 k (wrap64 (Int.tdiv x0 128)) (x3 ++ [(wrap64 ((Int.tmod x0 128) + 128)) % 256])) else (none)) else (if x3.length < 140737488355328 then (some (strOfNums (x3 ++ [(x0) % 256]))) else (none))
def corncribref06_Plain.f (k : Nat) (a0 : Int) : Option (ByteArray) := corncribref06_Plain.l0 k a0 ([] : List Int)
theorem corncribref06_Plain.mono_l : ∀ k, (∀ y0 y1, LeO (corncribref06_Plain.l0 k y0 y1) (corncribref06_Plain.l0 (k + 1) y0 y1))
 |0 => fun _ _ r h => by simp [corncribref06_Plain.l0] at h
 |k + 1 => by
  have ih0 := corncribref06_Plain.mono_l k
  ·intro y0 y1
   unfold corncribref06_Plain.l0
   repeat' first
   |(with_reducible exact ih0 _ _)
   |(with_reducible exact LeO.refl _)
   |(with_reducible exact LeO.none _)
   |(with_reducible refine LeO.ite ?_ ?_)
   |(with_reducible refine LeO.bind ?_ (fun _ => ?_))
   |exact ih0 _ _
   |exact LeO.none _
   |refine LeO.ite ?_ ?_
   |refine LeO.bind ?_ (fun _ => ?_)
theorem corncribref06_Plain.mono : ∀ a0 k, LeO (corncribref06_Plain.f k a0) (corncribref06_Plain.f (k + 1) a0) := by
 intro a0 k
 have ih0 := corncribref06_Plain.mono_l k
 unfold corncribref06_Plain.f
 repeat' first
   |(with_reducible exact ih0 _ _)
   |(with_reducible exact LeO.refl _)
   |(with_reducible exact LeO.none _)
   |(with_reducible refine LeO.ite ?_ ?_)
   |(with_reducible refine LeO.bind ?_ (fun _ => ?_))
   |exact ih0 _ _
   |exact LeO.none _
   |refine LeO.ite ?_ ?_
   |refine LeO.bind ?_ (fun _ => ?_)
set_option maxHeartbeats 8000000 in
set_option maxRecDepth 100000 in
theorem corncribref06_Plain.calls (k : Nat) (a0 : Int) (r : ByteArray) (w : World) (h : corncribref06_Plain.f k a0 = some r) :
  Calls Try.prog 52 #[.int .i64 a0] w fun e w' => e = .returned (.string r) ∧ Below w.heap.size w w' := by
 have HB := Aside0.mk (Below.refl w.heap.size w)
 have H : (corncribref06_Plain.l0 k a0 ([] : List Int)) = some r := h
 clear h
 have H' := Aside0.mk H
 clear H
 go_enter Try.func52, Try.ntmps52
 go_wp2
 go_loopg [0, 3] k (fun kq v0 v3 w' => ∃ (x0_1 : Int) (x3_1 : List Int), v0 = .int .i64 x0_1 ∧ Aside0 (corncribref06_Plain.l0 kq x0_1 x3_1 = some r) ∧ Aside0 (kq ≤ k) ∧ Aside0 (Kd.R (Kd.int .u8) 5 w' w.heap.size (fun _ => True) v3 x3_1) ∧ Aside0 (Below w.heap.size w w'))
 case atStart => exact ⟨(a0), (([] : List Int)), (by first | rfl | (simp; done) | (simp [*]; done)), H', ⟨Nat.le_refl _⟩, ⟨by first | exact Kd.R_nil _ _ _ _ _ | exact Kd.N_nil _ _ _ _ _ | exact Kd.V_nil _ _ _ _ _ | exact Kd.Q_nil _ _ _ _ _ | exact Kd.S_nil _ _ _ _ _⟩, ⟨by repeat (first | (with_reducible first | exact HB.out | apply below_alloc | apply pw_below_drewN | apply below_drew1) | exact HB.out)⟩⟩
 case round =>
  clear H'
  obtain ⟨x0_1, x3_1, rfl, HA, HK1, HO_3, HB⟩ := hrel
  cases gk with
  |zero => exact absurd HA.out (by simp [corncribref06_Plain.l0])
  |succ k1 =>
   have H := HA.out
   clear HA
   simp only [corncribref06_Plain.l0] at H
   by_cases c2 : x0_1 ≥ 128
   ·rw [if_pos c2] at H
    have c2b0 : decide (128 ≤ x0_1) = true := decide_eq_true c2
    clear c2
    by_cases c3 : x3_1.length < 140737488355328
    ·rw [if_pos c3] at H
     have LMc3 := Aside0.mk c3
     clear c3
     obtain ⟨y186, hy186⟩ : ∃ y_ : List Int, y_ = (x3_1 ++ [(wrap64 ((Int.tmod x0_1 128) + 128)) % 256]) := ⟨_, rfl⟩
     replace H : (corncribref06_Plain.l0 k1 (wrap64 (Int.tdiv x0_1 128)) y186) = some r := by first | (rw [hy186]; with_reducible exact H) | (have H2_ := (Option.bind_some _ _).symm.trans H; rw [hy186]; with_reducible exact H2_) | (have H2_ := (Option.bind_some _ _).symm.trans H; with_reducible exact H2_) | with_reducible exact H | (rw [hy186]; exact H) | exact H
     have Ny186 := Aside0.mk hy186
     clear hy186
     have H' := Aside0.mk H
     clear H
     go_wp2_with (first | ((with_reducible refine gate_builtin (b := .append) (xs := #[.tmp 6, .tmp 11]) rfl ?_); at_builtin; refine Kd.R_append (Kd.int .u8) (w0 := w) w.heap.size rfl (.tmp 6) (.tmp 11) 60 5 (.int .u8 0) 1 rfl Try.underlying60 info5 rfl (by decide) (by omega) u3 x3_1 ((wrap64 ((Int.tmod x0_1 128) + 128)) % 256) [.int .u8 ((wrap64 ((Int.tmod x0_1 128) + 128)) % 256)] (fun _ => True) (fun _ => False) rfl rfl ?aP (fun _ hk => hk.elim) ?aF ?aO ?aB ?aS ?aL ?_; (case aP => exact rfl); (case aB => exact (by repeat (first | (with_reducible first | exact HB.out | apply below_alloc | apply pw_below_drewN | apply below_drew1) | exact HB.out))); (case aF => exact (fun _ _ => trivial)); (case aO => exact (by (with_reducible repeat (first | apply Kd.R_alloc | apply Kd.R_drewN | apply Kd.R_drew)); exact HO_3.out)); (case aS => exact (below_size (by repeat (first | (with_reducible first | exact HB.out | apply below_alloc | apply pw_below_drewN | apply below_drew1) | exact HB.out)))); (case aL => have := LMc3.out; omega); intro v187 w4 ho hb hg hat; rw [← Ny186.out] at ho; have n0_ := Aside0.mk (hb); have n1_ := Aside0.mk (ho); clear HB; clear HO_3; have HB := n0_; have HO188 := n1_; clear n0_ n1_; clear ho hb hg hat))
     go_roundg k1
     case measure => have := HK1.out; omega
     case rel => exact ⟨(wrap64 (Int.tdiv x0_1 128)), (y186), (by first | rfl | (simp; done) | (simp [*]; done)), H', ⟨by have := HK1.out; omega⟩, ⟨by (with_reducible repeat (first | apply Kd.R_alloc | apply Kd.R_drewN | apply Kd.R_drew)); exact HO188.out⟩, ⟨by repeat (first | (with_reducible first | exact HB.out | apply below_alloc | apply pw_below_drewN | apply below_drew1) | exact HB.out)⟩⟩
    ·rw [if_neg c3] at H
     exact absurd H (by simp)
   ·rw [if_neg c2] at H
    have c2b0 : decide (128 ≤ x0_1) = false := decide_eq_false c2
    clear c2
    by_cases c5 : x3_1.length < 140737488355328
    ·rw [if_pos c5] at H
     have LMc5 := Aside0.mk c5
     clear c5
     obtain ⟨y189, hy189⟩ : ∃ y_ : List Int, y_ = (x3_1 ++ [(x0_1) % 256]) := ⟨_, rfl⟩
     replace H : (some (strOfNums y189)) = some r := by first | (rw [hy189]; with_reducible exact H) | (have H2_ := (Option.bind_some _ _).symm.trans H; rw [hy189]; with_reducible exact H2_) | (have H2_ := (Option.bind_some _ _).symm.trans H; with_reducible exact H2_) | with_reducible exact H | (rw [hy189]; exact H) | exact H
     have Ny189 := Aside0.mk hy189
     clear hy189
     obtain rfl := Option.some.inj H
     go_wp2_with (first | ((with_reducible refine gate_builtin (b := .append) (xs := #[.tmp 15, .tmp 18]) rfl ?_); at_builtin; refine Kd.R_append (Kd.int .u8) (w0 := w) w.heap.size rfl (.tmp 15) (.tmp 18) 60 5 (.int .u8 0) 1 rfl Try.underlying60 info5 rfl (by decide) (by omega) u3 x3_1 ((x0_1) % 256) [.int .u8 ((x0_1) % 256)] (fun _ => True) (fun _ => False) rfl rfl ?aP (fun _ hk => hk.elim) ?aF ?aO ?aB ?aS ?aL ?_; (case aP => exact rfl); (case aB => exact (by repeat (first | (with_reducible first | exact HB.out | apply below_alloc | apply pw_below_drewN | apply below_drew1) | exact HB.out))); (case aF => exact (fun _ _ => trivial)); (case aO => exact (by (with_reducible repeat (first | apply Kd.R_alloc | apply Kd.R_drewN | apply Kd.R_drew)); exact HO_3.out)); (case aS => exact (below_size (by repeat (first | (with_reducible first | exact HB.out | apply below_alloc | apply pw_below_drewN | apply below_drew1) | exact HB.out)))); (case aL => have := LMc5.out; omega); intro v190 w6 ho hb hg hat; rw [← Ny189.out] at ho; have n0_ := Aside0.mk (hb); have n1_ := Aside0.mk (ho); clear HB; clear HO_3; have HB := n0_; have HO191 := n1_; clear n0_ n1_; clear ho hb hg hat; have hcv7 := own_string (P := Try.prog) Try.underlying60 Try.underlying5 Try.underlying9 (Kd.own_of_R HO191.out)))
     go_ret
     exact ⟨by first | rfl | (simp [errW_none, errW_some] <;> rfl) | (simp [*, errW_none, errW_some] <;> rfl), by repeat (first | (with_reducible first | exact HB.out | apply below_alloc | apply pw_below_drewN | apply below_drew1) | exact HB.out)⟩
    ·rw [if_neg c5] at H
     exact absurd H (by simp)
end Go.Proofs.Ytelgpkbnahgdoaa.Al

namespace Go.Proofs.Ytelgpkbnahgdoaa.Al
open Go.RowKit Go.Proofs.YtelgpkbnahgdoaaW.PrintWords Go.Proofs.YtelgpkbnahgdoaaW.PrintLast Go.Proofs.YtelgpkbnahgdoaaW.PrintMore
attribute [local go_sem] max2_int min2_int max_two min_two max_three min_three max_four min_four   -- for this text's walks alone
set_option linter.unusedVariables false
set_option linter.unusedSimpArgs false
def corncribref06_Signed.f (k : Nat) (a0 : Int) : Option (ByteArray) := if a0 < 0 then ((corncribref06_Plain.f k (wrap64 ((wrap64 ((-2) * (wrap64 (a0 + 1)))) + 1))).bind fun t192 => (some t192)) else ((corncribref06_Plain.f k (wrap64 (2 * a0))).bind fun t193 => (some t193))
theorem corncribref06_Signed.mono : ∀ a0 k, LeO (corncribref06_Signed.f k a0) (corncribref06_Signed.f (k + 1) a0) := by
 intro a0 k
 unfold corncribref06_Signed.f
 repeat' first
   |(with_reducible exact corncribref06_Plain.mono _ _)
   |(with_reducible exact LeO.refl _)
   |(with_reducible exact LeO.none _)
   |(with_reducible refine LeO.ite ?_ ?_)
   |(with_reducible refine LeO.bind ?_ (fun _ => ?_))
   |exact corncribref06_Plain.mono _ _
   |exact LeO.none _
   |refine LeO.ite ?_ ?_
   |refine LeO.bind ?_ (fun _ => ?_)
set_option maxHeartbeats 8000000 in
set_option maxRecDepth 100000 in
theorem corncribref06_Signed.calls (k : Nat) (a0 : Int) (r : ByteArray) (w : World) (h : corncribref06_Signed.f k a0 = some r) :
  Calls Try.prog 53 #[.int .i64 a0] w fun e w' => e = .returned (.string r) ∧ Below w.heap.size w w' := by
 have HB := Aside0.mk (Below.refl w.heap.size w)
 have H : (if a0 < 0 then ((corncribref06_Plain.f k (wrap64 ((wrap64 ((-2) * (wrap64 (a0 + 1)))) + 1))).bind fun t192 => (some t192)) else ((corncribref06_Plain.f k (wrap64 (2 * a0))).bind fun t193 => (some t193))) = some r := h
 clear h
 by_cases c2 : a0 < 0
 ·rw [if_pos c2] at H
  have c2b0 : decide (a0 < 0) = true := decide_eq_true c2
  clear c2
  replace H := Option.bind_eq_some_iff.mp H
  obtain ⟨t192, A30, H⟩ := H
  replace H : (some t192) = some r := H
  have A3 := Aside0.mk A30
  clear A30
  obtain rfl := Option.some.inj H
  go_enter Try.func53, Try.ntmps53
  go_wp2_with (first | ((with_reducible refine gate_callee (f := 52) rfl ?_); refine goesL_ (some 9) rfl rfl Try.func52 (by kernel_rfl) rfl #[.int .i64 (wrap64 ((wrap64 ((-2) * (wrap64 (a0 + 1)))) + 1))] rfl (by (try simp only [List.map_toArray, List.map_cons, List.map_nil]); first | done | rfl | (simp only [List.length_drop, List.length_take]; rfl)) ?_; (with_reducible refine (corncribref06_Plain.calls k (wrap64 ((wrap64 ((-2) * (wrap64 (a0 + 1)))) + 1)) t192 _ A3.out).mono ?_); rintro e w4 ⟨rfl, hb⟩; refine ⟨_, rfl, ?_⟩; have n0_ := Aside0.mk (below_step (by repeat (first | (with_reducible first | exact HB.out | apply below_alloc | apply pw_below_drewN | apply below_drew1) | exact HB.out)) hb); clear HB; have HB := n0_; clear n0_; (try clear hb); (try clear hb2); (try clear hk); (try clear hi)))
  go_ret
  exact ⟨by first | rfl | (simp [errW_none, errW_some] <;> rfl) | (simp [*, errW_none, errW_some] <;> rfl), by repeat (first | (with_reducible first | exact HB.out | apply below_alloc | apply pw_below_drewN | apply below_drew1) | exact HB.out)⟩
 ·rw [if_neg c2] at H
  have c2b0 : decide (a0 < 0) = false := decide_eq_false c2
  clear c2
  replace H := Option.bind_eq_some_iff.mp H
  obtain ⟨t193, A50, H⟩ := H
  replace H : (some t193) = some r := H
  have A5 := Aside0.mk A50
  clear A50
  obtain rfl := Option.some.inj H
  go_enter Try.func53, Try.ntmps53
  go_wp2_with (first | ((with_reducible refine gate_callee (f := 52) rfl ?_); refine goesL_ (some 12) rfl rfl Try.func52 (by kernel_rfl) rfl #[.int .i64 (wrap64 (2 * a0))] rfl (by (try simp only [List.map_toArray, List.map_cons, List.map_nil]); first | done | rfl | (simp only [List.length_drop, List.length_take]; rfl)) ?_; (with_reducible refine (corncribref06_Plain.calls k (wrap64 (2 * a0)) t193 _ A5.out).mono ?_); rintro e w6 ⟨rfl, hb⟩; refine ⟨_, rfl, ?_⟩; have n0_ := Aside0.mk (below_step (by repeat (first | (with_reducible first | exact HB.out | apply below_alloc | apply pw_below_drewN | apply below_drew1) | exact HB.out)) hb); clear HB; have HB := n0_; clear n0_; (try clear hb); (try clear hb2); (try clear hk); (try clear hi)))
  go_ret
  exact ⟨by first | rfl | (simp [errW_none, errW_some] <;> rfl) | (simp [*, errW_none, errW_some] <;> rfl), by repeat (first | (with_reducible first | exact HB.out | apply below_alloc | apply pw_below_drewN | apply below_drew1) | exact HB.out)⟩
end Go.Proofs.Ytelgpkbnahgdoaa.Al

namespace Go.Proofs.Ytelgpkbnahgdoaa.Al
open Go.RowKit Go.Proofs.YtelgpkbnahgdoaaW.PrintWords Go.Proofs.YtelgpkbnahgdoaaW.PrintLast Go.Proofs.YtelgpkbnahgdoaaW.PrintMore
attribute [local go_sem] max2_int min2_int max_two min_two max_three min_three max_four min_four   -- for this text's walks alone
set_option linter.unusedVariables false
set_option linter.unusedSimpArgs false
mutual
def corncribref06_Bytes.l0 : Nat → ByteArray → Int → List Int → List ByteArray → Option (ByteArray)
 |0, _, _, _, _ => none
 |k + 1, x3, x4, x195000, x195001 => if x4 < (x195000.length : Int) then (if 0 ≤ x4 then ((corncribref06_Signed.f k (rd x195000 x4)).bind fun t197 => (if x3.size + t197.size ≤ 9223372036854775807 then (corncribref06_Bytes.l0 k (x3 ++ t197) (wrap64 (x4 + 1)) x195000 x195001) else (none))) else (none)) else ((corncribref06_Plain.f k (x195001.length : Int)).bind fun t198 => (if x3.size + t198.size ≤ 9223372036854775807 then (corncribref06_Bytes.l1 k (x3 ++ t198) 0 x195000 x195001) else (none)))
def corncribref06_Bytes.l1 : Nat → ByteArray → Int → List Int → List ByteArray → Option (ByteArray)
 |0, _, _, _, _ => none
 |k + 1, x3, x5, x195000, x195001 => if x5 < (x195001.length : Int) then (if 0 ≤ x5 then ((corncribref06_Plain.f k ((rdOf ByteArray.empty x195001 x5).size : Int)).bind fun t200 => (if t200.size + (rdOf ByteArray.empty x195001 x5).size ≤ 9223372036854775807 then (if x3.size + (t200 ++ (rdOf ByteArray.empty x195001 x5)).size ≤ 9223372036854775807 then (corncribref06_Bytes.l1 k (x3 ++ (t200 ++ (rdOf ByteArray.empty x195001 x5))) (wrap64 (x5 + 1)) x195000 x195001) else (none)) else (none))) else (none)) else (some x3)
end
def corncribref06_Bytes.f (k : Nat) (l0_0 : List Int) (l0_1 : List ByteArray) : Option (ByteArray) := (corncribref06_Plain.f k (l0_0.length : Int)).bind fun t195 => (corncribref06_Bytes.l0 k t195 0 l0_0 l0_1)
theorem corncribref06_Bytes.mono_l : ∀ k, (∀ y0 y1 y2 y3, LeO (corncribref06_Bytes.l0 k y0 y1 y2 y3) (corncribref06_Bytes.l0 (k + 1) y0 y1 y2 y3)) ∧ (∀ y0 y1 y2 y3, LeO (corncribref06_Bytes.l1 k y0 y1 y2 y3) (corncribref06_Bytes.l1 (k + 1) y0 y1 y2 y3))
 |0 => ⟨fun _ _ _ _ r h => by simp [corncribref06_Bytes.l0] at h, fun _ _ _ _ r h => by simp [corncribref06_Bytes.l1] at h⟩
 |k + 1 => by
  obtain ⟨ih0, ih1⟩ := corncribref06_Bytes.mono_l k
  refine ⟨?_, ?_⟩
  ·intro y0 y1 y2 y3
   unfold corncribref06_Bytes.l0
   repeat' first
   |(with_reducible exact ih0 _ _ _ _)
   |(with_reducible exact ih1 _ _ _ _)
   |(with_reducible exact corncribref06_Plain.mono _ _)
   |(with_reducible exact corncribref06_Signed.mono _ _)
   |(with_reducible exact LeO.refl _)
   |(with_reducible exact LeO.none _)
   |(with_reducible refine LeO.ite ?_ ?_)
   |(with_reducible refine LeO.bind ?_ (fun _ => ?_))
   |exact ih0 _ _ _ _
   |exact ih1 _ _ _ _
   |exact corncribref06_Plain.mono _ _
   |exact corncribref06_Signed.mono _ _
   |exact LeO.none _
   |refine LeO.ite ?_ ?_
   |refine LeO.bind ?_ (fun _ => ?_)
  ·intro y0 y1 y2 y3
   unfold corncribref06_Bytes.l1
   repeat' first
   |(with_reducible exact ih0 _ _ _ _)
   |(with_reducible exact ih1 _ _ _ _)
   |(with_reducible exact corncribref06_Plain.mono _ _)
   |(with_reducible exact corncribref06_Signed.mono _ _)
   |(with_reducible exact LeO.refl _)
   |(with_reducible exact LeO.none _)
   |(with_reducible refine LeO.ite ?_ ?_)
   |(with_reducible refine LeO.bind ?_ (fun _ => ?_))
   |exact ih0 _ _ _ _
   |exact ih1 _ _ _ _
   |exact corncribref06_Plain.mono _ _
   |exact corncribref06_Signed.mono _ _
   |exact LeO.none _
   |refine LeO.ite ?_ ?_
   |refine LeO.bind ?_ (fun _ => ?_)
theorem corncribref06_Bytes.mono : ∀ a0 a1 k, LeO (corncribref06_Bytes.f k a0 a1) (corncribref06_Bytes.f (k + 1) a0 a1) := by
 intro a0 a1 k
 obtain ⟨ih0, ih1⟩ := corncribref06_Bytes.mono_l k
 unfold corncribref06_Bytes.f
 repeat' first
   |(with_reducible exact ih0 _ _ _ _)
   |(with_reducible exact ih1 _ _ _ _)
   |(with_reducible exact corncribref06_Plain.mono _ _)
   |(with_reducible exact corncribref06_Signed.mono _ _)
   |(with_reducible exact LeO.refl _)
   |(with_reducible exact LeO.none _)
   |(with_reducible refine LeO.ite ?_ ?_)
   |(with_reducible refine LeO.bind ?_ (fun _ => ?_))
   |exact ih0 _ _ _ _
   |exact ih1 _ _ _ _
   |exact corncribref06_Plain.mono _ _
   |exact corncribref06_Signed.mono _ _
   |exact LeO.none _
   |refine LeO.ite ?_ ?_
   |refine LeO.bind ?_ (fun _ => ?_)
def corncribref06_Bytes.T10 : Bool × List (List Nat × List Nat) := (true, [([], []), ([], []), ([1], [1]), ([], []), ([2, 3], [2, 3]), ([4], [4]), ([5], [5]), ([6], [6]), ([], []), ([8], [8]), ([], []), ([9, 10], [9, 10]), ([11], [11]), ([7, 12], [7, 12]), ([0, 13], [0, 13]), ([14, 7, 0, 1, 2, 3, 4, 5, 6, 7, 8, 9, 10, 11, 12, 13, 14], [0, 14])])
def corncribref06_Bytes.B10 : List Nat := [0, 0, 2, 0, 14, 30, 62, 126, 0, 256, 0, 1792, 3840, 8190, 16383, 32767]
theorem corncribref06_Bytes.tab10 : rtab .any (opsOf Try.f44 10) = corncribref06_Bytes.T10 := by kernel_rfl
theorem corncribref06_Bytes.bits10 : waitsOk corncribref06_Bytes.T10.2 corncribref06_Bytes.B10 = true := by kernel_rfl
set_option maxHeartbeats 8000000 in
set_option maxRecDepth 100000 in
theorem corncribref06_Bytes.calls (k : Nat) (A0_0 : Option Addr) (c0_0 : Nat) (l0_0 : List Int) (A0_1 : Option Addr) (c0_1 : Nat) (l0_1 : List ByteArray) (r : ByteArray) (w : World) (hr0_0 : Kd.C (Kd.int .i64) w A0_0 l0_0.length l0_0) (hc0_0 : l0_0.length ≤ c0_0) (hr0_1 : Kd.C Kd.string w A0_1 l0_1.length l0_1) (hc0_1 : l0_1.length ≤ c0_1) (h : corncribref06_Bytes.f k l0_0 l0_1 = some r) :
  Calls Try.prog 44 #[.agg #[.slice A0_0 l0_0.length c0_0, .slice A0_1 l0_1.length c0_1]] w fun e w' => e = .returned (.string r) ∧ Below w.heap.size w w' := by
 have hu47 := Try.underlying47
 have HR0_0 := Aside0.mk hr0_0
 have HC0_0 := Aside0.mk hc0_0
 clear hr0_0 hc0_0
 have HR0_1 := Aside0.mk hr0_1
 have HC0_1 := Aside0.mk hc0_1
 clear hr0_1 hc0_1
 have HB := Aside0.mk (Below.refl w.heap.size w)
 have H : ((corncribref06_Plain.f k (l0_0.length : Int)).bind fun t195 => (corncribref06_Bytes.l0 k t195 0 l0_0 l0_1)) = some r := h
 clear h
 replace H := Option.bind_eq_some_iff.mp H
 obtain ⟨t195, A20, H⟩ := H
 replace H : (corncribref06_Bytes.l0 k t195 0 l0_0 l0_1) = some r := H
 have A2 := Aside0.mk A20
 clear A20
 have H' := Aside0.mk H
 clear H
 go_enter Try.func44, Try.ntmps44
 go_wp2_with (first | ((with_reducible refine gate_dst (N := 1) rfl ?_); refine box_event ?hg (N := 1) ?hd (cs := #[.slice A0_0 l0_0.length c0_0, .slice A0_1 l0_1.length c0_1]) (t := 47) ?hr ?_; (case hd => rfl); (case hg => rfl); (case hr => first | (go_simp; done) | (go_simp; rfl)); intro gb194 hg w3 hbox hb; have n0_ := Aside0.mk (below_step (by repeat (first | (with_reducible first | exact HB.out | apply below_alloc | apply pw_below_drewN | apply below_drew1) | exact HB.out)) hb); have n1_ := Aside0.mk (hbox); have n2_ := Aside0.mk ((by rw [hg]; exact (below_size (by repeat (first | (with_reducible first | exact HB.out | apply below_alloc | apply pw_below_drewN | apply below_drew1) | exact HB.out))) : w.heap.size ≤ gb194)); have n3_ := Aside0.mk ((by rw [hg]; exact (below_size (by repeat (first | (with_reducible first | exact HB.out | apply below_alloc | apply pw_below_drewN | apply below_drew1) | exact HB.out))) : w.heap.size ≤ gb194)); clear HB; have HB := n0_; have BK194 := n1_; have GW194 := n2_; have GE194 := n3_; clear n0_ n1_ n2_ n3_; clear hb hbox hg; have hcz4_0 : w3.cell? ⟨gb194, 0, none⟩ = some (.slice A0_0 l0_0.length c0_0) := (blk_cell BK194.out 0).trans rfl; have hcz4_1 : w3.cell? ⟨gb194, 1, none⟩ = some (.slice A0_1 l0_1.length c0_1) := (blk_cell BK194.out 1).trans rfl; have hfz4_0 := blk_frozen BK194.out 0; have hfz4_1 := blk_frozen BK194.out 1) | ((with_reducible refine gate_callee (f := 52) rfl ?_); refine goesL_ (some 9) rfl rfl Try.func52 (by kernel_rfl) rfl #[.int .i64 (l0_0.length : Int)] rfl (by (try simp only [List.map_toArray, List.map_cons, List.map_nil]); first | done | rfl | (simp only [List.length_drop, List.length_take]; rfl)) ?_; (with_reducible refine (corncribref06_Plain.calls k (l0_0.length : Int) t195 _ A2.out).mono ?_); rintro e w5 ⟨rfl, hb⟩; refine ⟨_, rfl, ?_⟩; have n0_ := Aside0.mk (blk_below (g := gb194) (o := .cells #[.slice A0_0 l0_0.length c0_0, .slice A0_1 l0_1.length c0_1] 47 (0, 0)) (by (with_reducible repeat (first | refine blk_drewN ?_ _ | refine blk_drew ?_ | refine blk_alloc ?_ _)); exact BK194.out) hb); have n1_ := Aside0.mk (below_step (by repeat (first | (with_reducible first | exact HB.out | apply below_alloc | apply pw_below_drewN | apply below_drew1 | refine below_set ?_ GE194.out) | exact HB.out)) hb); clear BK194; clear HB; have BK194 := n0_; have HB := n1_; clear n0_ n1_; (try clear hb); (try clear hb2); (try clear hk); (try clear hi)))
 go_loopg [3, 4] k (fun kq v3 v4 w' => ∃ (x3_1 : ByteArray) (x4_1 : Int), v3 = .string x3_1 ∧ v4 = .int .i64 x4_1 ∧ Aside0 (corncribref06_Bytes.l0 kq x3_1 x4_1 l0_0 l0_1 = some r) ∧ Aside0 (kq ≤ k) ∧ Aside0 (w'.heap[gb194]? = some (.cells #[(.slice A0_0 l0_0.length c0_0), (.slice A0_1 l0_1.length c0_1)] 47 (0, 0))) ∧ Aside0 (Below w.heap.size w w'))
 case atStart => exact ⟨(t195), (0), (by first | rfl | (simp; done) | (simp [*]; done)), (by first | rfl | (simp; done) | (simp [*]; done)), H', ⟨Nat.le_refl _⟩, ⟨by (with_reducible repeat (first | refine blk_drewN ?_ _ | refine blk_drew ?_ | refine blk_alloc ?_ _)); exact BK194.out⟩, ⟨by repeat (first | (with_reducible first | exact HB.out | apply below_alloc | apply pw_below_drewN | apply below_drew1 | refine below_set ?_ GE194.out) | exact HB.out)⟩⟩
 case round =>
  clear H'
  (try clear p2); (try clear c4); (try clear c5); (try clear hcz4_0); (try clear hcz4_1); (try clear hfz4_0); (try clear hfz4_1)
  obtain ⟨x3_1, x4_1, rfl, rfl, HA, HK1, BK194, HB⟩ := hrel
  cases gk with
  |zero => exact absurd HA.out (by simp [corncribref06_Bytes.l0])
  |succ k1 =>
   have H := HA.out
   clear HA
   simp only [corncribref06_Bytes.l0] at H
   by_cases c6 : x4_1 < (l0_0.length : Int)
   ·rw [if_pos c6] at H
    have c6b0 : decide (x4_1 < (l0_0.length : Int)) = true := decide_eq_true c6
    clear c6
    by_cases c7 : 0 ≤ x4_1
    ·rw [if_pos c7] at H
     have c7b0 : decide (0 ≤ x4_1) = true := decide_eq_true c7
     clear c7
     replace H := Option.bind_eq_some_iff.mp H
     obtain ⟨t197, A80, H⟩ := H
     replace H : (if x3_1.size + t197.size ≤ 9223372036854775807 then (corncribref06_Bytes.l0 k1 (x3_1 ++ t197) (wrap64 (x4_1 + 1)) l0_0 l0_1) else (none)) = some r := H
     have A8 := Aside0.mk A80
     clear A80
     by_cases c9 : x3_1.size + t197.size ≤ 9223372036854775807
     ·rw [if_pos c9] at H
      have c9b0 := eq_true c9
      have c9b1 : decide (x3_1.size + t197.size ≤ 9223372036854775807) = true := decide_eq_true c9
      try have c9b2 : (9223372036854775807 < x3_1.size + t197.size) = False := eq_false (Nat.not_lt.2 c9)
      have H' := Aside0.mk H
      clear H
      obtain ⟨hcz10_0, hfz10_0, hcz10_1, hfz10_1⟩ := cfz2 BK194.out
      have p196 : 0 ≤ (x4_1 : Int) := of_decide_eq_true (by first | (with_reducible assumption) | assumption)
      have q196 : x4_1 < (l0_0.length : Int) := of_decide_eq_true (by first | (with_reducible assumption) | assumption)
      obtain ⟨ad196, e196, hx196_0⟩ := Kd.at_int HR0_0.out x4_1 p196 q196
      cases e196
      replace hx196_0 := (HB.out.cell (World.block_lt_of_cell? w _ hx196_0)).trans hx196_0
      replace p196 := eq_true p196
      replace q196 := eq_true q196
      go_wp2_with (first | ((with_reducible refine gate_callee (f := 53) rfl ?_); refine goesL_ (some 23) rfl rfl Try.func53 (by kernel_rfl) rfl #[.int .i64 (rd l0_0 x4_1)] rfl (by (try simp only [List.map_toArray, List.map_cons, List.map_nil]); first | done | rfl | (simp only [List.length_drop, List.length_take]; rfl)) ?_; (with_reducible refine (corncribref06_Signed.calls k1 (rd l0_0 x4_1) t197 _ A8.out).mono ?_); rintro e w11 ⟨rfl, hb⟩; refine ⟨_, rfl, ?_⟩; have n0_ := Aside0.mk (blk_below (g := gb194) (o := .cells #[.slice (some ad196) l0_0.length c0_0, .slice A0_1 l0_1.length c0_1] 47 (0, 0)) (by (with_reducible repeat (first | refine blk_drewN ?_ _ | refine blk_drew ?_ | refine blk_alloc ?_ _)); exact BK194.out) hb); have n1_ := Aside0.mk (below_step (by repeat (first | (with_reducible first | exact HB.out | apply below_alloc | apply pw_below_drewN | apply below_drew1 | refine below_set ?_ GE194.out) | exact HB.out)) hb); clear BK194; clear HB; have BK194 := n0_; have HB := n1_; clear n0_ n1_; (try clear hb); (try clear hb2); (try clear hk); (try clear hi)))
      go_roundg k1
      case measure => have := HK1.out; omega
      case rel => exact ⟨(x3_1 ++ t197), (wrap64 (x4_1 + 1)), (by first | rfl | (simp; done) | (simp [*]; done)), (by first | rfl | (simp; done) | (simp [*]; done)), H', ⟨by have := HK1.out; omega⟩, ⟨by (with_reducible repeat (first | refine blk_drewN ?_ _ | refine blk_drew ?_ | refine blk_alloc ?_ _)); exact BK194.out⟩, ⟨by repeat (first | (with_reducible first | exact HB.out | apply below_alloc | apply pw_below_drewN | apply below_drew1 | refine below_set ?_ GE194.out) | exact HB.out)⟩⟩
     ·rw [if_neg c9] at H
      exact absurd H (by simp)
    ·rw [if_neg c7] at H
     exact absurd H (by simp)
   ·rw [if_neg c6] at H
    have c6b0 : decide (x4_1 < (l0_0.length : Int)) = false := decide_eq_false c6
    clear c6
    replace H := Option.bind_eq_some_iff.mp H
    obtain ⟨t198, A120, H⟩ := H
    replace H : (if x3_1.size + t198.size ≤ 9223372036854775807 then (corncribref06_Bytes.l1 k1 (x3_1 ++ t198) 0 l0_0 l0_1) else (none)) = some r := H
    have A12 := Aside0.mk A120
    clear A120
    by_cases c13 : x3_1.size + t198.size ≤ 9223372036854775807
    ·rw [if_pos c13] at H
     have c13b0 := eq_true c13
     have c13b1 : decide (x3_1.size + t198.size ≤ 9223372036854775807) = true := decide_eq_true c13
     try have c13b2 : (9223372036854775807 < x3_1.size + t198.size) = False := eq_false (Nat.not_lt.2 c13)
     have H' := Aside0.mk H
     clear H
     obtain ⟨hcz14_0, hfz14_0, hcz14_1, hfz14_1⟩ := cfz2 BK194.out
     go_wp2_with (first | ((with_reducible refine gate_callee (f := 52) rfl ?_); refine goesL_ (some 29) rfl rfl Try.func52 (by kernel_rfl) rfl #[.int .i64 (l0_1.length : Int)] rfl (by (try simp only [List.map_toArray, List.map_cons, List.map_nil]); first | done | rfl | (simp only [List.length_drop, List.length_take]; rfl)) ?_; (with_reducible refine (corncribref06_Plain.calls k1 (l0_1.length : Int) t198 _ A12.out).mono ?_); rintro e w15 ⟨rfl, hb⟩; refine ⟨_, rfl, ?_⟩; have n0_ := Aside0.mk (blk_below (g := gb194) (o := .cells #[.slice A0_0 l0_0.length c0_0, .slice A0_1 l0_1.length c0_1] 47 (0, 0)) (by (with_reducible repeat (first | refine blk_drewN ?_ _ | refine blk_drew ?_ | refine blk_alloc ?_ _)); exact BK194.out) hb); have n1_ := Aside0.mk (below_step (by repeat (first | (with_reducible first | exact HB.out | apply below_alloc | apply pw_below_drewN | apply below_drew1 | refine below_set ?_ GE194.out) | exact HB.out)) hb); clear BK194; clear HB; have BK194 := n0_; have HB := n1_; clear n0_ n1_; (try clear hb); (try clear hb2); (try clear hk); (try clear hi)))
     go_loopg [3, 5] k1 (fun kq v3 v5 w' => ∃ (x3_2 : ByteArray) (x5_2 : Int), v3 = .string x3_2 ∧ v5 = .int .i64 x5_2 ∧ Aside0 (corncribref06_Bytes.l1 kq x3_2 x5_2 l0_0 l0_1 = some r) ∧ Aside0 (kq ≤ k1) ∧ Aside0 (w'.heap[gb194]? = some (.cells #[(.slice A0_0 l0_0.length c0_0), (.slice A0_1 l0_1.length c0_1)] 47 (0, 0))) ∧ Aside0 (Below w.heap.size w w'))
     case atStart => exact ⟨(x3_1 ++ t198), (0), (by first | rfl | (simp; done) | (simp [*]; done)), (by first | rfl | (simp; done) | (simp [*]; done)), H', ⟨Nat.le_refl _⟩, ⟨by (with_reducible repeat (first | refine blk_drewN ?_ _ | refine blk_drew ?_ | refine blk_alloc ?_ _)); exact BK194.out⟩, ⟨by repeat (first | (with_reducible first | exact HB.out | apply below_alloc | apply pw_below_drewN | apply below_drew1 | refine below_set ?_ GE194.out) | exact HB.out)⟩⟩
     case round =>
      clear H'
      (try clear c1); (try clear p1); (try clear q1); (try clear hx1); (try clear p2); (try clear c4); (try clear c5); (try clear c6); (try clear c6b0); (try clear p6); (try clear c7); (try clear c7b0); (try clear c9); (try clear c9b0); (try clear c9b1); (try clear c9b2); (try clear c13); (try clear c13b0); (try clear c13b1); (try clear c13b2); (try clear hcz10_0); (try clear hcz10_1); (try clear hcz14_0); (try clear hcz14_1); (try clear hcz4_0); (try clear hcz4_1); (try clear hfz10_0); (try clear hfz10_1); (try clear hfz14_0); (try clear hfz14_1); (try clear hfz4_0); (try clear hfz4_1); (try clear hx196_0); (try clear p196); (try clear p2); (try clear q196)
      obtain ⟨x3_2, x5_2, rfl, rfl, HA, HK2, BK194, HB⟩ := hrel
      cases gk with
      |zero => exact absurd HA.out (by simp [corncribref06_Bytes.l1])
      |succ k2 =>
       have H := HA.out
       clear HA
       simp only [corncribref06_Bytes.l1] at H
       by_cases c16 : x5_2 < (l0_1.length : Int)
       ·rw [if_pos c16] at H
        have c16b0 : decide (x5_2 < (l0_1.length : Int)) = true := decide_eq_true c16
        clear c16
        by_cases c17 : 0 ≤ x5_2
        ·rw [if_pos c17] at H
         have c17b0 : decide (0 ≤ x5_2) = true := decide_eq_true c17
         clear c17
         replace H := Option.bind_eq_some_iff.mp H
         obtain ⟨t200, A180, H⟩ := H
         replace H : (if t200.size + (rdOf ByteArray.empty l0_1 x5_2).size ≤ 9223372036854775807 then (if x3_2.size + (t200 ++ (rdOf ByteArray.empty l0_1 x5_2)).size ≤ 9223372036854775807 then (corncribref06_Bytes.l1 k2 (x3_2 ++ (t200 ++ (rdOf ByteArray.empty l0_1 x5_2))) (wrap64 (x5_2 + 1)) l0_0 l0_1) else (none)) else (none)) = some r := H
         have A18 := Aside0.mk A180
         clear A180
         by_cases c19 : t200.size + (rdOf ByteArray.empty l0_1 x5_2).size ≤ 9223372036854775807
         ·rw [if_pos c19] at H
          have c19b0 := eq_true c19
          have c19b1 : decide (t200.size + (rdOf ByteArray.empty l0_1 x5_2).size ≤ 9223372036854775807) = true := decide_eq_true c19
          try have c19b2 : (9223372036854775807 < t200.size + (rdOf ByteArray.empty l0_1 x5_2).size) = False := eq_false (Nat.not_lt.2 c19)
          by_cases c20 : x3_2.size + (t200 ++ (rdOf ByteArray.empty l0_1 x5_2)).size ≤ 9223372036854775807
          ·rw [if_pos c20] at H
           have c20b0 := eq_true c20
           try have c20b0z : (x3_2.size + (t200.size + (rdOf ByteArray.empty l0_1 x5_2).size : Nat) ≤ 9223372036854775807) = True := eq_true (by simpa only [ByteArray.size_extract, ByteArray.size_append, Nat.min_self] using of_eq_true c20b0)
           have c20b1 : decide (x3_2.size + (t200 ++ (rdOf ByteArray.empty l0_1 x5_2)).size ≤ 9223372036854775807) = true := decide_eq_true c20
           try have c20b1z : decide (x3_2.size + (t200.size + (rdOf ByteArray.empty l0_1 x5_2).size : Nat) ≤ 9223372036854775807) = true := by simpa only [ByteArray.size_extract, ByteArray.size_append, Nat.min_self] using c20b1
           try have c20b2 : (9223372036854775807 < x3_2.size + (t200 ++ (rdOf ByteArray.empty l0_1 x5_2)).size) = False := eq_false (Nat.not_lt.2 c20)
           try have c20b2z : (9223372036854775807 < x3_2.size + (t200.size + (rdOf ByteArray.empty l0_1 x5_2).size : Nat)) = False := by simpa only [ByteArray.size_extract, ByteArray.size_append, Nat.min_self] using c20b2
           have H' := Aside0.mk H
           clear H
           obtain ⟨hcz21_0, hfz21_0, hcz21_1, hfz21_1⟩ := cfz2 BK194.out
           try go_wp2
           have n0_ := Aside0.mk (blk_drew BK194.out)
           have n1_ := Aside0.mk (below_drew1 HB.out)
           clear BK194
           clear HB
           have BK194 := n0_
           have HB := n1_
           clear n0_ n1_
           have p199 : 0 ≤ (x5_2 : Int) := of_decide_eq_true (by first | (with_reducible assumption) | assumption)
           have q199 : x5_2 < (l0_1.length : Int) := of_decide_eq_true (by first | (with_reducible assumption) | assumption)
           obtain ⟨ad199, e199, hx199_0⟩ := Kd.at_string HR0_1.out x5_2 p199 q199
           have hw199_0 := hx199_0
           cases e199
           replace hx199_0 := (HB.out.cell (World.block_lt_of_cell? w _ hx199_0)).trans hx199_0
           replace p199 := eq_true p199
           replace q199 := eq_true q199
           have p201 : 0 ≤ (x5_2 : Int) := of_decide_eq_true (by first | (with_reducible assumption) | assumption)
           have q201 : x5_2 < (l0_1.length : Int) := of_decide_eq_true (by first | (with_reducible assumption) | assumption)
           obtain ⟨ad201, e201, hx201_0⟩ := Kd.at_string HR0_1.out x5_2 p201 q201
           have hw201_0 := hx201_0
           obtain rfl : ad199 = ad201 := (by injection e201)
           replace hx201_0 := (HB.out.cell (World.block_lt_of_cell? w _ hx201_0)).trans hx201_0
           replace p201 := eq_true p201
           replace q201 := eq_true q201
           refine start_ (n := 16) (S := fun w' => w'.cell? ⟨gb194, 0, none⟩ = some (.slice A0_0 l0_0.length c0_0) ∧ w'.cell? ⟨gb194, 1, none⟩ = some (.slice (some ad199) l0_1.length c0_1) ∧ w'.cell? (ad199.add (x5_2).toNat) = some (.string (rdOf ByteArray.empty l0_1 x5_2)) ∧ w'.cell? (ad199.add (x5_2).toNat) = some (.string (rdOf ByteArray.empty l0_1 x5_2))) (ds := []) #[false, false, false, false, false, false, false, false, false, false, false, false, false, false, false, false] (by kernel_rfl) rfl rfl ⟨(blk_cell BK194.out 0).trans rfl, (blk_cell BK194.out 1).trans rfl, ((HB.out.cell (World.block_lt_of_cell? w _ hw199_0)).trans hw199_0), ((HB.out.cell (World.block_lt_of_cell? w _ hw201_0)).trans hw201_0)⟩ (fun hHeld => ?_); refine with_tabW corncribref06_Bytes.tab10 corncribref06_Bytes.bits10 (fun HT_ HW_ => ?_)
           generalize wr.drew = w22 at BK194 HB hx199_0 hx201_0 hHeld ⊢
           refine pure_ (i := 0) (N := some 38) (v := ?_) (a' := ?_) #[true, false, false, false, false, false, false, false, false, false, false, false, false, false, false, false] rfl rfl (any_of HT_.out (by kernel_rfl)) (fun _ _ _ h => h) (Or.inl ⟨by rfl, ?_⟩) ?_ ?_
           rotate_left
           ·intro w'
            go_simp
            with_reducible rfl
           rotate_left
           ·simp only [Act.put, List.setIfInBounds_toArray, List.set_cons_zero, List.set_cons_succ, i64_w, i32_w]
            rfl
           refine pure_ (i := 1) (N := some 39) (v := ?_) (a' := ?_) #[true, true, false, false, false, false, false, false, false, false, false, false, false, false, false, false] rfl rfl (any_of HT_.out (by kernel_rfl)) (fun _ _ _ h => h) (Or.inl ⟨by rfl, ?_⟩) ?_ ?_
           rotate_left
           ·intro w'
            go_simp
            with_reducible rfl
           rotate_left
           ·simp only [Act.put, List.setIfInBounds_toArray, List.set_cons_zero, List.set_cons_succ, i64_w, i32_w]
            rfl
           refine pure_ (i := 3) (N := some 41) (v := ?_) (a' := ?_) #[true, true, false, true, false, false, false, false, false, false, false, false, false, false, false, false] rfl rfl (any_of HT_.out (by kernel_rfl)) (fun _ _ _ h => h) (Or.inl ⟨by rfl, ?_⟩) ?_ ?_
           rotate_left
           ·intro w'
            go_simp
            with_reducible rfl
           rotate_left
           ·simp only [Act.put, List.setIfInBounds_toArray, List.set_cons_zero, List.set_cons_succ, i64_w, i32_w]
            rfl
           refine pure_ (i := 8) (N := some 46) (v := ?_) (a' := ?_) #[true, true, false, true, false, false, false, false, true, false, false, false, false, false, false, false] rfl rfl (any_of HT_.out (by kernel_rfl)) (fun _ _ _ h => h) (Or.inl ⟨by rfl, ?_⟩) ?_ ?_
           rotate_left
           ·intro w'
            go_simp
            with_reducible rfl
           rotate_left
           ·simp only [Act.put, List.setIfInBounds_toArray, List.set_cons_zero, List.set_cons_succ, i64_w, i32_w]
            rfl
           refine pure_ (i := 10) (N := some 48) (v := ?_) (a' := ?_) #[true, true, false, true, false, false, false, false, true, false, true, false, false, false, false, false] rfl rfl (any_of HT_.out (by kernel_rfl)) (fun _ _ _ h => h) (Or.inl ⟨by rfl, ?_⟩) ?_ ?_
           rotate_left
           ·intro w'
            go_simp
            with_reducible rfl
           rotate_left
           ·simp only [Act.put, List.setIfInBounds_toArray, List.set_cons_zero, List.set_cons_succ, i64_w, i32_w]
            rfl
           refine take_ (i := 2) (N := some 40) (v := ?_) (a' := ?_) #[true, true, true, true, false, false, false, false, true, false, true, false, false, false, false, false] rfl rfl (take_ofW HT_.out HW_.out (by kernel_rfl)) (fun _ _ _ h => h) (Or.inl ⟨by rfl, ?_⟩) hHeld ?_ ?_
           rotate_left
           ·rintro w' ⟨s0, s1, s2, s3⟩
            go_simp
            with_reducible rfl
           rotate_left
           ·simp only [Act.put, List.setIfInBounds_toArray, List.set_cons_zero, List.set_cons_succ, i64_w, i32_w]
            rfl
           refine pure_ (i := 4) (N := some 42) (v := ?_) (a' := ?_) #[true, true, true, true, true, false, false, false, true, false, true, false, false, false, false, false] rfl rfl (any_of HT_.out (by kernel_rfl)) (fun _ _ _ h => h) (Or.inl ⟨by rfl, ?_⟩) ?_ ?_
           rotate_left
           ·intro w'
            go_simp
            with_reducible rfl
           rotate_left
           ·simp only [Act.put, List.setIfInBounds_toArray, List.set_cons_zero, List.set_cons_succ, i64_w, i32_w]
            rfl
           refine take_ (i := 5) (N := some 43) (v := ?_) (a' := ?_) #[true, true, true, true, true, true, false, false, true, false, true, false, false, false, false, false] rfl rfl (take_ofW HT_.out HW_.out (by kernel_rfl)) (fun _ _ _ h => h) (Or.inl ⟨by rfl, ?_⟩) hHeld ?_ ?_
           rotate_left
           ·rintro w' ⟨s0, s1, s2, s3⟩
            go_simp
            with_reducible rfl
           rotate_left
           ·simp only [Act.put, List.setIfInBounds_toArray, List.set_cons_zero, List.set_cons_succ, i64_w, i32_w]
            rfl
           refine pure_ (i := 6) (N := some 44) (v := ?_) (a' := ?_) #[true, true, true, true, true, true, true, false, true, false, true, false, false, false, false, false] rfl rfl (any_of HT_.out (by kernel_rfl)) (fun _ _ _ h => h) (Or.inl ⟨by rfl, ?_⟩) ?_ ?_
           rotate_left
           ·intro w'
            go_simp
            with_reducible rfl
           rotate_left
           ·simp only [Act.put, List.setIfInBounds_toArray, List.set_cons_zero, List.set_cons_succ, i64_w, i32_w]
            rfl
           refine take_ (i := 9) (N := some 47) (v := ?_) (a' := ?_) #[true, true, true, true, true, true, true, false, true, true, true, false, false, false, false, false] rfl rfl (take_ofW HT_.out HW_.out (by kernel_rfl)) (fun _ _ _ h => h) (Or.inl ⟨by rfl, ?_⟩) hHeld ?_ ?_
           rotate_left
           ·rintro w' ⟨s0, s1, s2, s3⟩
            go_simp
            with_reducible rfl
           rotate_left
           ·simp only [Act.put, List.setIfInBounds_toArray, List.set_cons_zero, List.set_cons_succ, i64_w, i32_w]
            rfl
           refine pure_ (i := 11) (N := some 49) (v := ?_) (a' := ?_) #[true, true, true, true, true, true, true, false, true, true, true, true, false, false, false, false] rfl rfl (any_of HT_.out (by kernel_rfl)) (fun _ _ _ h => h) (Or.inl ⟨by rfl, ?_⟩) ?_ ?_
           rotate_left
           ·intro w'
            go_simp
            with_reducible rfl
           rotate_left
           ·simp only [Act.put, List.setIfInBounds_toArray, List.set_cons_zero, List.set_cons_succ, i64_w, i32_w]
            rfl
           refine take_ (i := 12) (N := some 50) (v := ?_) (a' := ?_) #[true, true, true, true, true, true, true, false, true, true, true, true, true, false, false, false] rfl rfl (take_ofW HT_.out HW_.out (by kernel_rfl)) (fun _ _ _ h => h) (Or.inl ⟨by rfl, ?_⟩) hHeld ?_ ?_
           rotate_left
           ·rintro w' ⟨s0, s1, s2, s3⟩
            go_simp
            with_reducible rfl
           rotate_left
           ·simp only [Act.put, List.setIfInBounds_toArray, List.set_cons_zero, List.set_cons_succ, i64_w, i32_w]
            rfl
           refine one_ (i := 7) (N := some 45) #[true, true, true, true, true, true, true, true, true, true, true, true, true, false, false, false] rfl rfl (one_of HT_.out (by kernel_rfl)) (by decide) (fun K hK => ?_)
           refine goes_ Try.func52 (by kernel_rfl) rfl #[.int .i64 ((rdOf ByteArray.empty l0_1 x5_2).size : Int)] (by rfl) rfl rfl (by (try simp only [List.map_toArray, List.map_cons, List.map_nil]); first | done | rfl | (simp only [List.length_drop, List.length_take]; rfl)) ?_
           with_reducible refine (corncribref06_Plain.calls k2 ((rdOf ByteArray.empty l0_1 x5_2).size : Int) t200 _ A18.out).mono ?_
           rintro e w23 ⟨rfl, hb⟩
           refine ⟨_, rfl, ?_⟩
           have n0_ := Aside0.mk (blk_below (g := gb194) (o := .cells #[.slice A0_0 l0_0.length c0_0, .slice (some ad199) l0_1.length c0_1] 47 (0, 0)) (by (with_reducible repeat (first | refine blk_drewN ?_ _ | refine blk_drew ?_ | refine blk_alloc ?_ _)); exact BK194.out) hb)
           have n1_ := Aside0.mk (below_step (by repeat (first | (with_reducible first | exact HB.out | apply below_alloc | apply pw_below_drewN | apply below_drew1 | refine below_set ?_ GE194.out) | exact HB.out)) hb)
           clear BK194
           clear HB
           have BK194 := n0_
           have HB := n1_
           clear n0_ n1_
           (try clear hb)
           (try clear hb2)
           (try clear hk)
           (try clear hi)
           refine hK.out _ _ ⟨(blk_cell BK194.out 0).trans rfl, (blk_cell BK194.out 1).trans rfl, ((HB.out.cell (World.block_lt_of_cell? w _ hw199_0)).trans hw199_0), ((HB.out.cell (World.block_lt_of_cell? w _ hw201_0)).trans hw201_0)⟩ (fun hHeld => ?_)
           clear hK K
           refine norm_ (a' := ?_) ?_ ?_
           rotate_left
           ·show Act.put _ (some 45) _ = _
            simp only [Act.put, List.setIfInBounds_toArray, List.set_cons_zero, List.set_cons_succ, i64_w, i32_w]
            rfl
           refine pure_ (i := 13) (N := some 51) (v := ?_) (a' := ?_) #[true, true, true, true, true, true, true, true, true, true, true, true, true, true, false, false] rfl rfl (any_of HT_.out (by kernel_rfl)) (fun _ _ _ h => h) (Or.inl ⟨by rfl, ?_⟩) ?_ ?_
           rotate_left
           ·intro w'
            go_simp
            with_reducible rfl
           rotate_left
           ·simp only [Act.put, List.setIfInBounds_toArray, List.set_cons_zero, List.set_cons_succ, i64_w, i32_w]
            rfl
           refine pure_ (i := 14) (N := some 52) (v := ?_) (a' := ?_) #[true, true, true, true, true, true, true, true, true, true, true, true, true, true, true, false] rfl rfl (any_of HT_.out (by kernel_rfl)) (fun _ _ _ h => h) (Or.inl ⟨by rfl, ?_⟩) ?_ ?_
           rotate_left
           ·intro w'
            go_simp
            with_reducible rfl
           rotate_left
           ·simp only [Act.put, List.setIfInBounds_toArray, List.set_cons_zero, List.set_cons_succ, i64_w, i32_w]
            rfl
           refine pure_ (i := 15) (N := some 3) (v := ?_) (a' := ?_) #[true, true, true, true, true, true, true, true, true, true, true, true, true, true, true, true] rfl rfl (any_of HT_.out (by kernel_rfl)) (fun _ _ _ h => h) (Or.inl ⟨by rfl, ?_⟩) ?_ ?_
           rotate_left
           ·intro w'
            go_simp
            with_reducible rfl
           rotate_left
           ·simp only [Act.put, List.setIfInBounds_toArray, List.set_cons_zero, List.set_cons_succ, i64_w, i32_w]
            rfl
           refine done_ (done_of HT_.out (by kernel_rfl)) ?_
           try go_wp2
           go_roundg k2
           case measure => have := HK1.out; have := HK2.out; omega
           case rel => exact ⟨(x3_2 ++ (t200 ++ (rdOf ByteArray.empty l0_1 x5_2))), (wrap64 (x5_2 + 1)), (by first | rfl | (simp; done) | (simp [*]; done)), (by first | rfl | (simp; done) | (simp [*]; done)), H', ⟨by have := HK1.out; have := HK2.out; omega⟩, ⟨by (with_reducible repeat (first | refine blk_drewN ?_ _ | refine blk_drew ?_ | refine blk_alloc ?_ _)); exact BK194.out⟩, ⟨by repeat (first | (with_reducible first | exact HB.out | apply below_alloc | apply pw_below_drewN | apply below_drew1 | refine below_set ?_ GE194.out) | exact HB.out)⟩⟩
          ·rw [if_neg c20] at H
           exact absurd H (by simp)
         ·rw [if_neg c19] at H
          exact absurd H (by simp)
        ·rw [if_neg c17] at H
         exact absurd H (by simp)
       ·rw [if_neg c16] at H
        have c16b0 : decide (x5_2 < (l0_1.length : Int)) = false := decide_eq_false c16
        clear c16
        obtain rfl := Option.some.inj H
        obtain ⟨hcz24_0, hfz24_0, hcz24_1, hfz24_1⟩ := cfz2 BK194.out
        go_wp2
        go_ret
        exact ⟨by first | rfl | (simp [errW_none, errW_some] <;> rfl) | (simp [*, errW_none, errW_some] <;> rfl), by repeat (first | (with_reducible first | exact HB.out | apply below_alloc | apply pw_below_drewN | apply below_drew1 | refine below_set ?_ GE194.out) | exact HB.out)⟩
    ·rw [if_neg c13] at H
     exact absurd H (by simp)
end Go.Proofs.Ytelgpkbnahgdoaa.Al
