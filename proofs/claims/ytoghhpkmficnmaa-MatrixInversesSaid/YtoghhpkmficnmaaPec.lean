/- What the laws stand on, in one text: functions of the program by their contracts, and the plain mathematics behind them (7 of them). -/
import Derived.Test.YtoghhpkmficnmaaPeb

/- One function of the program comes to what its plain twin says. This text began as the kit's own print (print.py, made by cprint.sh) and was turned by split.py: it is no printed file. -/
namespace Go.Proofs.Ytoghhpkmficnmaa.Al
open Go.RowKit Go.Proofs.YtoghhpkmficnmaaW.PrintWords Go.Proofs.YtoghhpkmficnmaaW.PrintLast Go.Proofs.YtoghhpkmficnmaaW.PrintMore
attribute [local go_sem] max2_int min2_int max_two min_two max_three min_three max_four min_four   -- for this text's walks alone
set_option linter.unusedVariables false
set_option linter.unusedSimpArgs false

/-! ### corncribref02_rows: function 34 -/
def corncribref02_rows.l0 : Nat → List ByteArray → Int → Int → Int → ByteArray → Option (List ByteArray)
 |0, _, _, _, _, _ => none
 |k + 1, x3, x4, x153000, x153001, x153002 => if x4 < x153000 then (if 0 ≤ (wrap64 (x4 * x153001)) then (if (wrap64 (x4 * x153001)) ≤ (wrap64 ((wrap64 (x4 * x153001)) + x153001)) then (if (wrap64 ((wrap64 (x4 * x153001)) + x153001)) ≤ (x153002.size : Int) then (if x3.length < 8796093022208 then (corncribref02_rows.l0 k (x3 ++ [x153002.extract ((wrap64 (x4 * x153001)) : Int).toNat ((wrap64 ((wrap64 (x4 * x153001)) + x153001)) : Int).toNat]) (wrap64 (x4 + 1)) x153000 x153001 x153002) else (none)) else (none)) else (none)) else (none)) else (some x3)
def corncribref02_rows.f (k : Nat) (a0_0 : Int) (a0_1 : Int) (a0_2 : ByteArray) : Option (List ByteArray) := corncribref02_rows.l0 k ([] : List ByteArray) 0 a0_0 a0_1 a0_2
theorem corncribref02_rows.mono_l : ∀ k, (∀ y0 y1 y2 y3 y4, LeO (corncribref02_rows.l0 k y0 y1 y2 y3 y4) (corncribref02_rows.l0 (k + 1) y0 y1 y2 y3 y4))
 |0 => fun _ _ _ _ _ r h => by simp [corncribref02_rows.l0] at h
 |k + 1 => by
  have ih0 := corncribref02_rows.mono_l k
  ·intro y0 y1 y2 y3 y4
   unfold corncribref02_rows.l0
   repeat' first
   |(with_reducible exact ih0 _ _ _ _ _)
   |(with_reducible exact LeO.refl _)
   |(with_reducible exact LeO.none _)
   |(with_reducible refine LeO.ite ?_ ?_)
   |(with_reducible refine LeO.bind ?_ (fun _ => ?_))
   |exact ih0 _ _ _ _ _
   |exact LeO.none _
   |refine LeO.ite ?_ ?_
   |refine LeO.bind ?_ (fun _ => ?_)
theorem corncribref02_rows.mono : ∀ a0 a1 a2 k, LeO (corncribref02_rows.f k a0 a1 a2) (corncribref02_rows.f (k + 1) a0 a1 a2) := by
 intro a0 a1 a2 k
 have ih0 := corncribref02_rows.mono_l k
 unfold corncribref02_rows.f
 repeat' first
   |(with_reducible exact ih0 _ _ _ _ _)
   |(with_reducible exact LeO.refl _)
   |(with_reducible exact LeO.none _)
   |(with_reducible refine LeO.ite ?_ ?_)
   |(with_reducible refine LeO.bind ?_ (fun _ => ?_))
   |exact ih0 _ _ _ _ _
   |exact LeO.none _
   |refine LeO.ite ?_ ?_
   |refine LeO.bind ?_ (fun _ => ?_)
set_option maxHeartbeats 8000000 in
set_option maxRecDepth 100000 in
theorem corncribref02_rows.calls (k : Nat) (a0_0 : Int) (a0_1 : Int) (a0_2 : ByteArray) (r : List ByteArray) (w : World) (h : corncribref02_rows.f k a0_0 a0_1 a0_2 = some r) :
  Calls Try.prog 34 #[.agg #[.int .i64 a0_0, .int .i64 a0_1, .string a0_2]] w fun e w' => ∃ v0_ : Value, e = .returned (v0_) ∧ Kd.R Kd.string 9 w' w.heap.size (fun _ => True) v0_ r ∧ Below w.heap.size w w' := by
 have hu24 := Try.underlying24
 have HB := Aside0.mk (Below.refl w.heap.size w)
 have H : (corncribref02_rows.l0 k ([] : List ByteArray) 0 a0_0 a0_1 a0_2) = some r := h
 clear h
 have H' := Aside0.mk H
 clear H
 go_enter Try.func34, Try.ntmps34
 go_wp2_with (first | ((with_reducible refine gate_dst (N := 1) rfl ?_); refine box_event ?hg (N := 1) ?hd (cs := #[.int .i64 a0_0, .int .i64 a0_1, .string a0_2]) (t := 24) ?hr ?_; (case hd => rfl); (case hg => rfl); (case hr => first | (go_simp; done) | (go_simp; rfl)); intro gb152 hg w2 hbox hb; have n0_ := Aside0.mk (below_step (by repeat (first | (with_reducible first | exact HB.out | apply below_alloc | apply pw_below_drewN | apply below_drew1) | exact HB.out)) hb); have n1_ := Aside0.mk (hbox); have n2_ := Aside0.mk ((by rw [hg]; exact (below_size (by repeat (first | (with_reducible first | exact HB.out | apply below_alloc | apply pw_below_drewN | apply below_drew1) | exact HB.out))) : w.heap.size ≤ gb152)); have n3_ := Aside0.mk ((by rw [hg]; exact (below_size (by repeat (first | (with_reducible first | exact HB.out | apply below_alloc | apply pw_below_drewN | apply below_drew1) | exact HB.out))) : w.heap.size ≤ gb152)); clear HB; have HB := n0_; have BK152 := n1_; have GW152 := n2_; have GE152 := n3_; clear n0_ n1_ n2_ n3_; clear hb hbox hg))
 go_loopg [3, 4] k (fun kq v3 v4 w' => ∃ (x3_1 : List ByteArray) (x4_1 : Int), v4 = .int .i64 x4_1 ∧ Aside0 (corncribref02_rows.l0 kq x3_1 x4_1 a0_0 a0_1 a0_2 = some r) ∧ Aside0 (kq ≤ k) ∧ Aside0 (Kd.R Kd.string 9 w' w.heap.size (fun _ => True) v3 x3_1) ∧ Aside0 (w'.heap[gb152]? = some (.cells #[.int .i64 a0_0, .int .i64 a0_1, .string a0_2] 24 (0, 0))) ∧ Aside0 (Below w.heap.size w w'))
 case atStart => exact ⟨(([] : List ByteArray)), (0), (by first | rfl | (simp; done) | (simp [*]; done)), H', ⟨Nat.le_refl _⟩, ⟨by first | exact Kd.R_nil _ _ _ _ _ | exact Kd.N_nil _ _ _ _ _ | exact Kd.V_nil _ _ _ _ _ | exact Kd.Q_nil _ _ _ _ _ | exact Kd.S_nil _ _ _ _ _⟩, ⟨by (with_reducible repeat (first | refine blk_drewN ?_ _ | refine blk_drew ?_ | refine blk_alloc ?_ _)); exact BK152.out⟩, ⟨by repeat (first | (with_reducible first | exact HB.out | apply below_alloc | apply pw_below_drewN | apply below_drew1 | refine below_set ?_ GE152.out) | exact HB.out)⟩⟩
 case round =>
  clear H'
  try clear p2
  obtain ⟨x3_1, x4_1, rfl, HA, HK1, HO_3, BK152, HB⟩ := hrel
  cases gk with
  |zero => exact absurd HA.out (by simp [corncribref02_rows.l0])
  |succ k1 =>
   have H := HA.out
   clear HA
   simp only [corncribref02_rows.l0] at H
   by_cases c3 : x4_1 < a0_0
   ·rw [if_pos c3] at H
    have c3b0 : decide (x4_1 < a0_0) = true := decide_eq_true c3
    clear c3
    obtain ⟨ji4, hji4⟩ : ∃ j_ : Int, (wrap64 (x4_1 * a0_1)) = j_ := ⟨_, rfl⟩
    replace H : (if 0 ≤ (ji4) then (if (ji4) ≤ (wrap64 ((ji4) + a0_1)) then (if (wrap64 ((ji4) + a0_1)) ≤ (a0_2.size : Int) then (if x3_1.length < 8796093022208 then (corncribref02_rows.l0 k1 (x3_1 ++ [a0_2.extract ((ji4) : Int).toNat ((wrap64 ((ji4) + a0_1)) : Int).toNat]) (wrap64 (x4_1 + 1)) a0_0 a0_1 a0_2) else (none)) else (none)) else (none)) else (none)) = some r := by first | (rw [hji4] at H; exact H) | (simp only [hji4] at H ⊢; exact H)
    have hji4w : (IntKind.i64.wrap (x4_1 * a0_1)) = ji4 := (i64_w _).trans hji4
    by_cases c5 : 0 ≤ (ji4)
    ·rw [if_pos c5] at H
     have c5b0 := eq_true c5
     have c5b1 : decide (0 ≤ (ji4)) = true := decide_eq_true c5
     clear c5
     by_cases c6 : (ji4) ≤ (wrap64 ((ji4) + a0_1))
     ·rw [if_pos c6] at H
      have c6b0 := eq_true c6
      have c6b1 : decide ((ji4) ≤ (wrap64 ((ji4) + a0_1))) = true := decide_eq_true c6
      by_cases c7 : (wrap64 ((ji4) + a0_1)) ≤ (a0_2.size : Int)
      ·rw [if_pos c7] at H
       have c7b0 := eq_true c7
       have c7b1 : decide ((wrap64 ((ji4) + a0_1)) ≤ (a0_2.size : Int)) = true := decide_eq_true c7
       by_cases c8 : x3_1.length < 8796093022208
       ·rw [if_pos c8] at H
        have LMc8 := Aside0.mk c8
        clear c8
        obtain ⟨y153, hy153⟩ : ∃ y_ : List ByteArray, y_ = (x3_1 ++ [a0_2.extract ((ji4) : Int).toNat ((wrap64 ((ji4) + a0_1)) : Int).toNat]) := ⟨_, rfl⟩
        replace H : (corncribref02_rows.l0 k1 y153 (wrap64 (x4_1 + 1)) a0_0 a0_1 a0_2) = some r := by first | (rw [hy153]; with_reducible exact H) | (have H2_ := (Option.bind_some _ _).symm.trans H; rw [hy153]; with_reducible exact H2_) | (have H2_ := (Option.bind_some _ _).symm.trans H; with_reducible exact H2_) | with_reducible exact H | (rw [hy153]; exact H) | exact H
        have Ny153 := Aside0.mk hy153
        clear hy153
        have H' := Aside0.mk H
        clear H
        obtain ⟨hcz9_0, hfz9_0, hcz9_1, hfz9_1, hcz9_2, hfz9_2⟩ := cfz3 BK152.out
        go_wp2_with (first | ((with_reducible refine gate_builtin (b := .append) (xs := #[.tmp 11, .tmp 26]) rfl ?_); at_builtin; refine Kd.R_append Kd.string (w0 := w) w.heap.size rfl (.tmp 11) (.tmp 26) 60 9 (.string ⟨#[]⟩) 16 rfl Try.underlying60 info9 rfl (by decide) (by omega) u3 x3_1 (a0_2.extract ((ji4) : Int).toNat ((wrap64 ((ji4) + a0_1)) : Int).toNat) [.string (a0_2.extract ((ji4) : Int).toNat ((wrap64 ((ji4) + a0_1)) : Int).toNat)] (fun _ => True) (fun _ => False) rfl rfl ?aP (fun _ hk => hk.elim) ?aF ?aO ?aB ?aS ?aL ?_; (case aP => exact rfl); (case aB => exact (by repeat (first | (with_reducible first | exact HB.out | apply below_alloc | apply pw_below_drewN | apply below_drew1 | refine below_set ?_ GE152.out) | exact HB.out))); (case aF => exact (fun _ _ => trivial)); (case aO => exact (by (with_reducible repeat (first | apply Kd.R_alloc | apply Kd.R_drewN | apply Kd.R_drew)); exact HO_3.out)); (case aS => exact (below_size (by repeat (first | (with_reducible first | exact HB.out | apply below_alloc | apply pw_below_drewN | apply below_drew1 | refine below_set ?_ GE152.out) | exact HB.out)))); (case aL => have := LMc8.out; omega); intro v154 w10 ho hb hg hat; rw [← Ny153.out] at ho; have n0_ := Aside0.mk (blk_grown (g := gb152) (o := .cells #[.int .i64 a0_0, .int .i64 a0_1, .string a0_2] 24 (0, 0)) (by (with_reducible repeat (first | refine blk_drewN ?_ _ | refine blk_drew ?_ | refine blk_alloc ?_ _)); exact BK152.out) hg (Kd.R_ne HO_3.out BK152.out (by decide))); have n1_ := Aside0.mk (hb); have n2_ := Aside0.mk (ho); clear BK152; clear HB; clear HO_3; have BK152 := n0_; have HB := n1_; have HO155 := n2_; clear n0_ n1_ n2_; clear ho hb hg hat))
        go_roundg k1
        case measure => have := HK1.out; omega
        case rel => exact ⟨(y153), (wrap64 (x4_1 + 1)), (by first | rfl | (simp; done) | (simp [*]; done)), H', ⟨by have := HK1.out; omega⟩, ⟨by (with_reducible repeat (first | apply Kd.R_alloc | apply Kd.R_drewN | apply Kd.R_drew)); exact HO155.out⟩, ⟨by (with_reducible repeat (first | refine blk_drewN ?_ _ | refine blk_drew ?_ | refine blk_alloc ?_ _)); exact BK152.out⟩, ⟨by repeat (first | (with_reducible first | exact HB.out | apply below_alloc | apply pw_below_drewN | apply below_drew1 | refine below_set ?_ GE152.out) | exact HB.out)⟩⟩
       ·rw [if_neg c8] at H
        exact absurd H (by simp)
      ·rw [if_neg c7] at H
       exact absurd H (by simp)
     ·rw [if_neg c6] at H
      exact absurd H (by simp)
    ·rw [if_neg c5] at H
     exact absurd H (by simp)
   ·rw [if_neg c3] at H
    have c3b0 : decide (x4_1 < a0_0) = false := decide_eq_false c3
    clear c3
    obtain rfl := Option.some.inj H
    obtain ⟨hcz11_0, hfz11_0, hcz11_1, hfz11_1, hcz11_2, hfz11_2⟩ := cfz3 BK152.out
    go_wp2
    go_ret
    exact ⟨_, by first | rfl | (simp [errW_none, errW_some] <;> rfl) | (simp [*, errW_none, errW_some] <;> rfl), by (with_reducible repeat (first | apply Kd.R_alloc | apply Kd.R_drewN | apply Kd.R_drew)); exact HO_3.out, by repeat (first | (with_reducible first | exact HB.out | apply below_alloc | apply pw_below_drewN | apply below_drew1 | refine below_set ?_ GE152.out) | exact HB.out)⟩

end Go.Proofs.Ytoghhpkmficnmaa.Al

/- The document's rows of a matrix, and a matrix row by row. -/
namespace Go.Proofs.Ytoghhpkmficnmaa.Al
open Go.RowKit Go.Proofs.Ytoghhpkmficnmaa.GfMath Go.Proofs.Ytoghhpkmficnmaa.GfRef Go.Proofs.Ytoghhpkmficnmaa.Base Go.Proofs.Ytoghhpkmficnmaa.Bytes Go.Proofs.Ytoghhpkmficnmaa.Grid Go.Proofs.YtoghhpkmficnmaaW.PrintWords Go.Proofs.YtoghhpkmficnmaaW.PrintMore
set_option linter.unusedVariables false
/-- A row as text. -/
def rowB (m : Nat) (f : Nat → Int) : ByteArray := strOfNums (listOf m f)
theorem rowB_size (m : Nat) (f : Nat → Int) : (rowB m f).size = m := by rw [rowB, strOfNums_size, listOf_length]
theorem rowB_congr {m : Nat} {f g : Nat → Int} (h : ∀ j, j < m → f j = g j) : rowB m f = rowB m g := by rw [rowB, rowB, listOf_congr h]
theorem bt_rowB {m : Nat} {f : Nat → Int} {j : Nat} (hj : j < m) (hb : Byte (f j)) : bt (rowB m f) (j : Int) = f j := by
 have hl : j < (B (rowB m f)).length := by rw [B_len, rowB_size]; exact hj
 rw [bt_B _ j hl]
 have : (B (rowB m f))[j] = UInt8.ofNat (f j).toNat := by simp [rowB, B_nums, listOf]
 rw [this]
 obtain ⟨h0, h1⟩ := hb
 simp
 omega
theorem extract_row {s : ByteArray} {a m : Nat} (h : a + m ≤ s.size) : s.extract a (a + m) = rowB m (fun j => bt s ((a + j : Nat) : Int)) := by
 refine B_inj (List.ext_getElem ?_ fun k h1 h2 => ?_)
 ·rw [B_extract, List.length_drop, List.length_take, B_len, B_len, rowB_size]; omega
 ·have hk : k < m := by rw [B_len, rowB_size] at h2; exact h2
  have e1 := bt_B (s.extract a (a + m)) k h1
  have e2 := bt_B (rowB m (fun j => bt s ((a + j : Nat) : Int))) k h2
  rw [bt_extract s a m h k hk] at e1
  rw [bt_rowB hk (byte_bt s _)] at e2
  exact UInt8.toNat_inj.1 (by omega)
theorem cells_suc {m : Nat} (hm : 0 < m) (i : Nat) (f : Nat → Nat → Int) : cellsOf (i + 1) m f = cellsOf i m f ++ rowB m (f i) := by
 refine B_inj ?_
 rw [B_append, cellsOf, cellsOf, rowB, B_nums, B_nums, B_nums, ← List.map_append, Nat.add_mul, Nat.one_mul, listOf_add]
 congr 2
 exact listOf_congr fun j hj => by rw [at_div hj, at_mod hj]
theorem cells_zero (m : Nat) (f : Nat → Nat → Int) : cellsOf 0 m f = ⟨#[]⟩ := by
 refine B_inj ?_
 rw [cellsOf, B_nums, Nat.zero_mul]; rfl
/-- A list of rows. -/
def rowsB (n m : Nat) (f : Nat → Nat → Int) : List ByteArray := (List.range n).map fun i => rowB m (f i)
theorem rowsB_len (n m : Nat) (f : Nat → Nat → Int) : (rowsB n m f).length = n := by simp [rowsB]
theorem rowsB_get {n m : Nat} {f : Nat → Nat → Int} {i : Nat} (h : i < n) (d : ByteArray) : rdOf d (rowsB n m f) (i : Int) = rowB m (f i) := by
 unfold rdOf
 rw [Int.toNat_natCast, List.getD_eq_getElem?_getD]
 simp [rowsB, h]
theorem rows_l0 {n m : Nat} {s : ByteArray} (h : okM n m s) : ∀ (d i : Nat), i + d = n →
  Ev (fun k => corncribref02_rows.l0 k (rowsB i m (toI (entN m s))) i n m s) (rowsB n m (toI (entN m s)))
 |0, i, hd => by
  refine Ev.succ ?_
  simp only [corncribref02_rows.l0]
  refine Ev.neg (by omega) ?_
  obtain rfl : i = n := by omega
  exact Ev.now _
 |d + 1, i, hd => by
  obtain ⟨a1, a2, a3, a4, a5⟩ := h
  have hs : s.size = n * m := by rw [← Int.natCast_mul] at a5; exact Int.ofNat_inj.1 a5
  have z1 : n * m ≤ 255 * 255 := Nat.mul_le_mul (by omega) (by omega)
  have z2 : (i + 1) * m ≤ n * m := Nat.mul_le_mul_right m (by omega)
  rw [Nat.add_mul, Nat.one_mul] at z2
  refine Ev.succ ?_
  simp only [corncribref02_rows.l0]
  refine Ev.pos (by omega) ?_
  rw [← Int.natCast_mul, wrap_nat (by omega), ← Int.natCast_add, wrap_nat (by omega)]
  refine Ev.pos (by omega) (Ev.pos (by omega) (Ev.pos (by omega) (Ev.pos (by rw [rowsB_len]; omega) ?_)))
  rw [Int.toNat_natCast, Int.toNat_natCast, extract_row (by omega), wrap_suc (by omega)]
  have := rows_l0 ⟨a1, a2, a3, a4, a5⟩ d (i + 1) (by omega)
  rw [show rowsB (i + 1) m (toI (entN m s)) = rowsB i m (toI (entN m s)) ++ [rowB m (fun j => bt s ((i * m + j : Nat) : Int))] from by
   unfold rowsB
   rw [List.range_succ, List.map_append]
   congr 1
   simp only [List.map_cons, List.map_nil]
   rw [rowB_congr fun j _ => toI_ent m s i j]] at this
  exact this
theorem rows_ev {n m : Nat} {s : ByteArray} (h : okM n m s) : Ev (fun k => corncribref02_rows.f k n m s) (rowsB n m (toI (entN m s))) := rows_l0 h n 0 (by omega)
end Go.Proofs.Ytoghhpkmficnmaa.Al

/- One function of the program comes to what its plain twin says. This text began as the kit's own print (print.py, made by cprint.sh) and was turned by split.py: it is no printed file. -/
namespace Go.Proofs.Ytoghhpkmficnmaa.Al
open Go.RowKit Go.Proofs.YtoghhpkmficnmaaW.PrintWords Go.Proofs.YtoghhpkmficnmaaW.PrintLast Go.Proofs.YtoghhpkmficnmaaW.PrintMore
attribute [local go_sem] max2_int min2_int max_two min_two max_three min_three max_four min_four   -- for this text's walks alone
set_option linter.unusedVariables false
set_option linter.unusedSimpArgs false

attribute [local go_sem high] eqA24
/-! ### corncribref01_Scale: function 42 -/
def corncribref01_Scale.l0 : Nat → Int → ByteArray → List Int → Int → Option (ByteArray)
 |0, _, _, _, _ => none
 |k + 1, x0, x1, x5, x6 => if x6 < (x1.size : Int) then (if 0 ≤ x6 then ((corncribref01_Mul.f k x0 (bt x1 x6)).bind fun t330 => (if x5.length < 140737488355328 then (corncribref01_Scale.l0 k x0 x1 (x5 ++ [t330]) (wrap64 (x6 + 1))) else (none))) else (none)) else (some (strOfNums x5))
def corncribref01_Scale.f (k : Nat) (a0 : Int) (a1 : ByteArray) : Option (ByteArray) := corncribref01_Scale.l0 k a0 a1 ([] : List Int) 0
theorem corncribref01_Scale.mono_l : ∀ k, (∀ y0 y1 y2 y3, LeO (corncribref01_Scale.l0 k y0 y1 y2 y3) (corncribref01_Scale.l0 (k + 1) y0 y1 y2 y3))
 |0 => fun _ _ _ _ r h => by simp [corncribref01_Scale.l0] at h
 |k + 1 => by
  have ih0 := corncribref01_Scale.mono_l k
  ·intro y0 y1 y2 y3
   unfold corncribref01_Scale.l0
   repeat' first
   |(with_reducible exact ih0 _ _ _ _)
   |(with_reducible exact corncribref01_Mul.mono _ _ _)
   |(with_reducible exact LeO.refl _)
   |(with_reducible exact LeO.none _)
   |(with_reducible refine LeO.ite ?_ ?_)
   |(with_reducible refine LeO.bind ?_ (fun _ => ?_))
   |exact ih0 _ _ _ _
   |exact corncribref01_Mul.mono _ _ _
   |exact LeO.none _
   |refine LeO.ite ?_ ?_
   |refine LeO.bind ?_ (fun _ => ?_)
theorem corncribref01_Scale.mono : ∀ a0 a1 k, LeO (corncribref01_Scale.f k a0 a1) (corncribref01_Scale.f (k + 1) a0 a1) := by
 intro a0 a1 k
 have ih0 := corncribref01_Scale.mono_l k
 unfold corncribref01_Scale.f
 repeat' first
   |(with_reducible exact ih0 _ _ _ _)
   |(with_reducible exact corncribref01_Mul.mono _ _ _)
   |(with_reducible exact LeO.refl _)
   |(with_reducible exact LeO.none _)
   |(with_reducible refine LeO.ite ?_ ?_)
   |(with_reducible refine LeO.bind ?_ (fun _ => ?_))
   |exact ih0 _ _ _ _
   |exact corncribref01_Mul.mono _ _ _
   |exact LeO.none _
   |refine LeO.ite ?_ ?_
   |refine LeO.bind ?_ (fun _ => ?_)
set_option maxHeartbeats 8000000 in
set_option maxRecDepth 100000 in
theorem corncribref01_Scale.calls (k : Nat) (a0 : Int) (a1 : ByteArray) (r : ByteArray) (w : World) (h : corncribref01_Scale.f k a0 a1 = some r) :
  Calls Try.prog 42 #[.int .u8 a0, .string a1] w fun e w' => e = .returned (.string r) ∧ Below w.heap.size w w' := by
 have HB := Aside0.mk (Below.refl w.heap.size w)
 have H : (corncribref01_Scale.l0 k a0 a1 ([] : List Int) 0) = some r := h
 clear h
 have H' := Aside0.mk H
 clear H
 go_enter Try.func42, Try.ntmps42
 go_wp2
 go_loopg [5, 6] k (fun kq v5 v6 w' => ∃ (x5_1 : List Int) (x6_1 : Int), v6 = .int .i64 x6_1 ∧ Aside0 (corncribref01_Scale.l0 kq a0 a1 x5_1 x6_1 = some r) ∧ Aside0 (kq ≤ k) ∧ Aside0 (Kd.R (Kd.int .u8) 5 w' w.heap.size (fun _ => True) v5 x5_1) ∧ Aside0 (Below w.heap.size w w'))
 case atStart => exact ⟨(([] : List Int)), (0), (by first | rfl | (simp; done) | (simp [*]; done)), H', ⟨Nat.le_refl _⟩, ⟨by first | exact Kd.R_nil _ _ _ _ _ | exact Kd.N_nil _ _ _ _ _ | exact Kd.V_nil _ _ _ _ _ | exact Kd.Q_nil _ _ _ _ _ | exact Kd.S_nil _ _ _ _ _⟩, ⟨by repeat (first | (with_reducible first | exact HB.out | apply below_alloc | apply pw_below_drewN | apply below_drew1) | exact HB.out)⟩⟩
 case round =>
  clear H'
  try clear p2
  obtain ⟨x5_1, x6_1, rfl, HA, HK1, HO_5, HB⟩ := hrel
  cases gk with
  |zero => exact absurd HA.out (by simp [corncribref01_Scale.l0])
  |succ k1 =>
   have H := HA.out
   clear HA
   simp only [corncribref01_Scale.l0] at H
   by_cases c3 : x6_1 < (a1.size : Int)
   ·rw [if_pos c3] at H
    have c3b0 : decide (x6_1 < (a1.size : Int)) = true := decide_eq_true c3
    clear c3
    by_cases c4 : 0 ≤ x6_1
    ·rw [if_pos c4] at H
     have c4b0 : decide (0 ≤ x6_1) = true := decide_eq_true c4
     clear c4
     replace H := Option.bind_eq_some_iff.mp H
     obtain ⟨t330, A60, H⟩ := H
     replace H : (if x5_1.length < 140737488355328 then (corncribref01_Scale.l0 k1 a0 a1 (x5_1 ++ [t330]) (wrap64 (x6_1 + 1))) else (none)) = some r := H
     have A6 := Aside0.mk A60
     clear A60
     by_cases c7 : x5_1.length < 140737488355328
     ·rw [if_pos c7] at H
      have LMc7 := Aside0.mk c7
      clear c7
      obtain ⟨y331, hy331⟩ : ∃ y_ : List Int, y_ = (x5_1 ++ [t330]) := ⟨_, rfl⟩
      replace H : (corncribref01_Scale.l0 k1 a0 a1 y331 (wrap64 (x6_1 + 1))) = some r := by first | (rw [hy331]; with_reducible exact H) | (have H2_ := (Option.bind_some _ _).symm.trans H; rw [hy331]; with_reducible exact H2_) | (have H2_ := (Option.bind_some _ _).symm.trans H; with_reducible exact H2_) | with_reducible exact H | (rw [hy331]; exact H) | exact H
      have Ny331 := Aside0.mk hy331
      clear hy331
      have H' := Aside0.mk H
      clear H
      have p5 : 0 ≤ (x6_1 : Int) := of_decide_eq_true (by first | (with_reducible assumption) | assumption)
      have q5 : x6_1 < (a1.size : Int) := of_decide_eq_true (by first | (with_reducible assumption) | assumption)
      have hx5 := bt_at a1 x6_1
      replace p5 := eq_true p5
      replace q5 := eq_true q5
      go_wp2_with (first | ((with_reducible refine gate_callee (f := 46) rfl ?_); refine goesL_ (some 18) rfl rfl Try.func46 (by kernel_rfl) rfl #[.int .u8 a0, .int .u8 (bt a1 x6_1)] rfl (by (try simp only [List.map_toArray, List.map_cons, List.map_nil]); first | done | rfl | (simp only [List.length_drop, List.length_take]; rfl)) ?_; (with_reducible refine (corncribref01_Mul.calls k1 a0 (bt a1 x6_1) t330 _ A6.out).mono ?_); rintro e w' ⟨rfl, ⟨nd, rfl⟩⟩; refine ⟨_, rfl, ?_⟩) | ((with_reducible refine gate_builtin (b := .append) (xs := #[.tmp 13, .tmp 19]) rfl ?_); at_builtin; refine Kd.R_append (Kd.int .u8) (w0 := w) w.heap.size rfl (.tmp 13) (.tmp 19) 54 5 (.int .u8 0) 1 rfl Try.underlying54 info5 rfl (by decide) (by omega) u5 x5_1 t330 [.int .u8 t330] (fun _ => True) (fun _ => False) rfl rfl ?aP (fun _ hk => hk.elim) ?aF ?aO ?aB ?aS ?aL ?_; (case aP => exact rfl); (case aB => exact (by repeat (first | (with_reducible first | exact HB.out | apply below_alloc | apply pw_below_drewN | apply below_drew1) | exact HB.out))); (case aF => exact (fun _ _ => trivial)); (case aO => exact (by (with_reducible repeat (first | apply Kd.R_alloc | apply Kd.R_drewN | apply Kd.R_drew)); exact HO_5.out)); (case aS => exact (below_size (by repeat (first | (with_reducible first | exact HB.out | apply below_alloc | apply pw_below_drewN | apply below_drew1) | exact HB.out)))); (case aL => have := LMc7.out; omega); intro v332 w8 ho hb hg hat; rw [← Ny331.out] at ho; have n0_ := Aside0.mk (hb); have n1_ := Aside0.mk (ho); clear HB; clear HO_5; have HB := n0_; have HO333 := n1_; clear n0_ n1_; clear ho hb hg hat))
      go_roundg k1
      case measure => have := HK1.out; omega
      case rel => exact ⟨(y331), (wrap64 (x6_1 + 1)), (by first | rfl | (simp; done) | (simp [*]; done)), H', ⟨by have := HK1.out; omega⟩, ⟨by (with_reducible repeat (first | apply Kd.R_alloc | apply Kd.R_drewN | apply Kd.R_drew)); exact HO333.out⟩, ⟨by repeat (first | (with_reducible first | exact HB.out | apply below_alloc | apply pw_below_drewN | apply below_drew1) | exact HB.out)⟩⟩
     ·rw [if_neg c7] at H
      exact absurd H (by simp)
    ·rw [if_neg c4] at H
     exact absurd H (by simp)
   ·rw [if_neg c3] at H
    have c3b0 : decide (x6_1 < (a1.size : Int)) = false := decide_eq_false c3
    clear c3
    obtain rfl := Option.some.inj H
    have hcv9 := own_string (P := Try.prog) Try.underlying54 Try.underlying5 Try.underlying9 (Kd.own_of_R HO_5.out)
    go_wp2
    go_ret
    exact ⟨by first | rfl | (simp [errW_none, errW_some] <;> rfl) | (simp [*, errW_none, errW_some] <;> rfl), by repeat (first | (with_reducible first | exact HB.out | apply below_alloc | apply pw_below_drewN | apply below_drew1) | exact HB.out)⟩

end Go.Proofs.Ytoghhpkmficnmaa.Al

/- One function of the program comes to what its plain twin says. This text began as the kit's own print (print.py, made by cprint.sh) and was turned by split.py: it is no printed file. -/
namespace Go.Proofs.Ytoghhpkmficnmaa.Al
open Go.RowKit Go.Proofs.YtoghhpkmficnmaaW.PrintWords Go.Proofs.YtoghhpkmficnmaaW.PrintLast Go.Proofs.YtoghhpkmficnmaaW.PrintMore
attribute [local go_sem] max2_int min2_int max_two min_two max_three min_three max_four min_four   -- for this text's walks alone
set_option linter.unusedVariables false
set_option linter.unusedSimpArgs false

attribute [local go_sem high] eqA24
/-! ### corncribref02_plus: function 43 -/
def corncribref02_plus.l0 : Nat → ByteArray → ByteArray → List Int → Int → Option (ByteArray)
 |0, _, _, _, _ => none
 |k + 1, x0, x7, x8, x9 => if x9 < (x0.size : Int) then (if 0 ≤ x9 then (if x9 < (x7.size : Int) then (if x8.length < 140737488355328 then (corncribref02_plus.l0 k x0 x7 (x8 ++ [Go.bits .xor .u8 (bt x0 x9) (bt x7 x9)]) (wrap64 (x9 + 1))) else (none)) else (none)) else (none)) else (some (strOfNums x8))
def corncribref02_plus.f (k : Nat) (a0 : ByteArray) (a1 : Int) (a2 : ByteArray) : Option (ByteArray) := (corncribref01_Scale.f k a1 a2).bind fun t334 => (corncribref02_plus.l0 k a0 t334 ([] : List Int) 0)
theorem corncribref02_plus.mono_l : ∀ k, (∀ y0 y1 y2 y3, LeO (corncribref02_plus.l0 k y0 y1 y2 y3) (corncribref02_plus.l0 (k + 1) y0 y1 y2 y3))
 |0 => fun _ _ _ _ r h => by simp [corncribref02_plus.l0] at h
 |k + 1 => by
  have ih0 := corncribref02_plus.mono_l k
  ·intro y0 y1 y2 y3
   unfold corncribref02_plus.l0
   repeat' first
   |(with_reducible exact ih0 _ _ _ _)
   |(with_reducible exact corncribref01_Scale.mono _ _ _)
   |(with_reducible exact LeO.refl _)
   |(with_reducible exact LeO.none _)
   |(with_reducible refine LeO.ite ?_ ?_)
   |(with_reducible refine LeO.bind ?_ (fun _ => ?_))
   |exact ih0 _ _ _ _
   |exact corncribref01_Scale.mono _ _ _
   |exact LeO.none _
   |refine LeO.ite ?_ ?_
   |refine LeO.bind ?_ (fun _ => ?_)
theorem corncribref02_plus.mono : ∀ a0 a1 a2 k, LeO (corncribref02_plus.f k a0 a1 a2) (corncribref02_plus.f (k + 1) a0 a1 a2) := by
 intro a0 a1 a2 k
 have ih0 := corncribref02_plus.mono_l k
 unfold corncribref02_plus.f
 repeat' first
   |(with_reducible exact ih0 _ _ _ _)
   |(with_reducible exact corncribref01_Scale.mono _ _ _)
   |(with_reducible exact LeO.refl _)
   |(with_reducible exact LeO.none _)
   |(with_reducible refine LeO.ite ?_ ?_)
   |(with_reducible refine LeO.bind ?_ (fun _ => ?_))
   |exact ih0 _ _ _ _
   |exact corncribref01_Scale.mono _ _ _
   |exact LeO.none _
   |refine LeO.ite ?_ ?_
   |refine LeO.bind ?_ (fun _ => ?_)
def corncribref02_plus.T6 : Bool × List (List Nat × List Nat) := (true, [([], []), ([], []), ([], []), ([1, 2], [1, 2]), ([], []), ([], []), ([4, 5], [4, 5]), ([3, 6], [3, 6]), ([7], [7]), ([0, 8], [0, 8]), ([9, 9, 0, 1, 2, 3, 4, 5, 6, 7, 8, 9], [0, 9])])
def corncribref02_plus.B6 : List Nat := [0, 0, 0, 6, 0, 0, 48, 126, 254, 511, 1023]
theorem corncribref02_plus.tab6 : rtab .any (opsOf Try.f43 6) = corncribref02_plus.T6 := by kernel_rfl
theorem corncribref02_plus.bits6 : waitsOk corncribref02_plus.T6.2 corncribref02_plus.B6 = true := by kernel_rfl
set_option maxHeartbeats 8000000 in
set_option maxRecDepth 100000 in
theorem corncribref02_plus.calls (k : Nat) (a0 : ByteArray) (a1 : Int) (a2 : ByteArray) (r : ByteArray) (w : World) (h : corncribref02_plus.f k a0 a1 a2 = some r) :
  Calls Try.prog 43 #[.string a0, .int .u8 a1, .string a2] w fun e w' => e = .returned (.string r) ∧ Below w.heap.size w w' := by
 have HB := Aside0.mk (Below.refl w.heap.size w)
 have H : ((corncribref01_Scale.f k a1 a2).bind fun t334 => (corncribref02_plus.l0 k a0 t334 ([] : List Int) 0)) = some r := h
 clear h
 replace H := Option.bind_eq_some_iff.mp H
 obtain ⟨t334, A40, H⟩ := H
 replace H : (corncribref02_plus.l0 k a0 t334 ([] : List Int) 0) = some r := H
 have A4 := Aside0.mk A40
 clear A40
 have H' := Aside0.mk H
 clear H
 go_enter Try.func43, Try.ntmps43
 go_wp2_with (first | ((with_reducible refine gate_callee (f := 42) rfl ?_); refine goesL_ (some 12) rfl rfl Try.func42 (by kernel_rfl) rfl #[.int .u8 a1, .string a2] rfl (by (try simp only [List.map_toArray, List.map_cons, List.map_nil]); first | done | rfl | (simp only [List.length_drop, List.length_take]; rfl)) ?_; (with_reducible refine (corncribref01_Scale.calls k a1 a2 t334 _ A4.out).mono ?_); rintro e w5 ⟨rfl, hb⟩; refine ⟨_, rfl, ?_⟩; have n0_ := Aside0.mk (below_step (by repeat (first | (with_reducible first | exact HB.out | apply below_alloc | apply pw_below_drewN | apply below_drew1) | exact HB.out)) hb); clear HB; have HB := n0_; clear n0_; (try clear hb); (try clear hb2); (try clear hk); (try clear hi)))
 go_loopg [8, 9] k (fun kq v8 v9 w' => ∃ (x8_1 : List Int) (x9_1 : Int), v9 = .int .i64 x9_1 ∧ Aside0 (corncribref02_plus.l0 kq a0 t334 x8_1 x9_1 = some r) ∧ Aside0 (kq ≤ k) ∧ Aside0 (Kd.R (Kd.int .u8) 5 w' w.heap.size (fun _ => True) v8 x8_1) ∧ Aside0 (Below w.heap.size w w'))
 case atStart => exact ⟨(([] : List Int)), (0), (by first | rfl | (simp; done) | (simp [*]; done)), H', ⟨Nat.le_refl _⟩, ⟨by first | exact Kd.R_nil _ _ _ _ _ | exact Kd.N_nil _ _ _ _ _ | exact Kd.V_nil _ _ _ _ _ | exact Kd.Q_nil _ _ _ _ _ | exact Kd.S_nil _ _ _ _ _⟩, ⟨by repeat (first | (with_reducible first | exact HB.out | apply below_alloc | apply pw_below_drewN | apply below_drew1) | exact HB.out)⟩⟩
 case round =>
  clear H'
  (try clear p2); (try clear c4)
  obtain ⟨x8_1, x9_1, rfl, HA, HK1, HO_8, HB⟩ := hrel
  cases gk with
  |zero => exact absurd HA.out (by simp [corncribref02_plus.l0])
  |succ k1 =>
   have H := HA.out
   clear HA
   simp only [corncribref02_plus.l0] at H
   by_cases c6 : x9_1 < (a0.size : Int)
   ·rw [if_pos c6] at H
    have c6b0 : decide (x9_1 < (a0.size : Int)) = true := decide_eq_true c6
    clear c6
    by_cases c7 : 0 ≤ x9_1
    ·rw [if_pos c7] at H
     have c7b0 : decide (0 ≤ x9_1) = true := decide_eq_true c7
     clear c7
     by_cases c9 : x9_1 < (t334.size : Int)
     ·rw [if_pos c9] at H
      have c9b0 : decide (x9_1 < (t334.size : Int)) = true := decide_eq_true c9
      clear c9
      by_cases c11 : x8_1.length < 140737488355328
      ·rw [if_pos c11] at H
       have LMc11 := Aside0.mk c11
       clear c11
       obtain ⟨y335, hy335⟩ : ∃ y_ : List Int, y_ = (x8_1 ++ [Go.bits .xor .u8 (bt a0 x9_1) (bt t334 x9_1)]) := ⟨_, rfl⟩
       replace H : (corncribref02_plus.l0 k1 a0 t334 y335 (wrap64 (x9_1 + 1))) = some r := by first | (rw [hy335]; with_reducible exact H) | (have H2_ := (Option.bind_some _ _).symm.trans H; rw [hy335]; with_reducible exact H2_) | (have H2_ := (Option.bind_some _ _).symm.trans H; with_reducible exact H2_) | with_reducible exact H | (rw [hy335]; exact H) | exact H
       have Ny335 := Aside0.mk hy335
       clear hy335
       have H' := Aside0.mk H
       clear H
       try go_wp2
       have n0_ := Aside0.mk (Kd.R_drew HO_8.out)
       have n1_ := Aside0.mk (below_drew1 HB.out)
       clear HO_8
       clear HB
       have HO_8 := n0_
       have HB := n1_
       clear n0_ n1_
       have p8 : 0 ≤ (x9_1 : Int) := of_decide_eq_true (by first | (with_reducible assumption) | assumption)
       have q8 : x9_1 < (a0.size : Int) := of_decide_eq_true (by first | (with_reducible assumption) | assumption)
       have hx8 := bt_at a0 x9_1
       replace p8 := eq_true p8
       replace q8 := eq_true q8
       have p10 : 0 ≤ (x9_1 : Int) := of_decide_eq_true (by first | (with_reducible assumption) | assumption)
       have q10 : x9_1 < (t334.size : Int) := of_decide_eq_true (by first | (with_reducible assumption) | assumption)
       have hx10 := bt_at t334 x9_1
       replace p10 := eq_true p10
       replace q10 := eq_true q10
       refine start_ (n := 11) (S := fun w' => True) (ds := []) #[false, false, false, false, false, false, false, false, false, false, false] (by kernel_rfl) rfl rfl trivial (fun hHeld => ?_); refine with_tabW corncribref02_plus.tab6 corncribref02_plus.bits6 (fun HT_ HW_ => ?_)
       generalize wr.drew = w12 at HO_8 HB hHeld ⊢
       refine pure_ (i := 0) (N := some 19) (v := ?_) (a' := ?_) #[true, false, false, false, false, false, false, false, false, false, false] rfl rfl (any_of HT_.out (by kernel_rfl)) (fun _ _ _ h => h) (Or.inl ⟨by rfl, ?_⟩) ?_ ?_
       rotate_left
       ·intro w'
        go_simp
        with_reducible rfl
       rotate_left
       ·simp only [Act.put, List.setIfInBounds_toArray, List.set_cons_zero, List.set_cons_succ, i64_w, i32_w]
        rfl
       refine pure_ (i := 1) (N := some 20) (v := ?_) (a' := ?_) #[true, true, false, false, false, false, false, false, false, false, false] rfl rfl (any_of HT_.out (by kernel_rfl)) (fun _ _ _ h => h) (Or.inl ⟨by rfl, ?_⟩) ?_ ?_
       rotate_left
       ·intro w'
        go_simp
        with_reducible rfl
       rotate_left
       ·simp only [Act.put, List.setIfInBounds_toArray, List.set_cons_zero, List.set_cons_succ, i64_w, i32_w]
        rfl
       refine pure_ (i := 2) (N := some 21) (v := ?_) (a' := ?_) #[true, true, true, false, false, false, false, false, false, false, false] rfl rfl (any_of HT_.out (by kernel_rfl)) (fun _ _ _ h => h) (Or.inl ⟨by rfl, ?_⟩) ?_ ?_
       rotate_left
       ·intro w'
        go_simp
        with_reducible rfl
       rotate_left
       ·simp only [Act.put, List.setIfInBounds_toArray, List.set_cons_zero, List.set_cons_succ, i64_w, i32_w]
        rfl
       refine pure_ (i := 4) (N := some 23) (v := ?_) (a' := ?_) #[true, true, true, false, true, false, false, false, false, false, false] rfl rfl (any_of HT_.out (by kernel_rfl)) (fun _ _ _ h => h) (Or.inl ⟨by rfl, ?_⟩) ?_ ?_
       rotate_left
       ·intro w'
        go_simp
        with_reducible rfl
       rotate_left
       ·simp only [Act.put, List.setIfInBounds_toArray, List.set_cons_zero, List.set_cons_succ, i64_w, i32_w]
        rfl
       refine pure_ (i := 5) (N := some 24) (v := ?_) (a' := ?_) #[true, true, true, false, true, true, false, false, false, false, false] rfl rfl (any_of HT_.out (by kernel_rfl)) (fun _ _ _ h => h) (Or.inl ⟨by rfl, ?_⟩) ?_ ?_
       rotate_left
       ·intro w'
        go_simp
        with_reducible rfl
       rotate_left
       ·simp only [Act.put, List.setIfInBounds_toArray, List.set_cons_zero, List.set_cons_succ, i64_w, i32_w]
        rfl
       refine take_ (i := 3) (N := some 22) (v := ?_) (a' := ?_) #[true, true, true, true, true, true, false, false, false, false, false] rfl rfl (take_ofW HT_.out HW_.out (by kernel_rfl)) (fun _ _ _ h => h) (Or.inl ⟨by rfl, ?_⟩) hHeld ?_ ?_
       rotate_left
       ·intro w' _
        go_simp
        with_reducible rfl
       rotate_left
       ·simp only [Act.put, List.setIfInBounds_toArray, List.set_cons_zero, List.set_cons_succ, i64_w, i32_w]
        rfl
       refine take_ (i := 6) (N := some 25) (v := ?_) (a' := ?_) #[true, true, true, true, true, true, true, false, false, false, false] rfl rfl (take_ofW HT_.out HW_.out (by kernel_rfl)) (fun _ _ _ h => h) (Or.inl ⟨by rfl, ?_⟩) hHeld ?_ ?_
       rotate_left
       ·intro w' _
        go_simp
        with_reducible rfl
       rotate_left
       ·simp only [Act.put, List.setIfInBounds_toArray, List.set_cons_zero, List.set_cons_succ, i64_w, i32_w]
        rfl
       refine pure_ (i := 7) (N := some 26) (v := ?_) (a' := ?_) #[true, true, true, true, true, true, true, true, false, false, false] rfl rfl (any_of HT_.out (by kernel_rfl)) (fun _ _ _ h => h) (Or.inl ⟨by rfl, ?_⟩) ?_ ?_
       rotate_left
       ·intro w'
        go_simp
        with_reducible rfl
       rotate_left
       ·simp only [Act.put, List.setIfInBounds_toArray, List.set_cons_zero, List.set_cons_succ, i64_w, i32_w]
        rfl
       refine one_ (i := 8) (N := some 27) #[true, true, true, true, true, true, true, true, true, false, false] rfl rfl (one_of HT_.out (by kernel_rfl)) (by decide) (fun K hK => ?_)
       refine value_ (w1 := ?_) (v := ?_) (by rfl) rfl ?_ ?_
       rotate_left 2
       ·go_simp
        constructor
        ·rfl
        ·rfl
       refine hK.out _ _ trivial (fun hHeld => ?_)
       clear hK K
       refine norm_ (a' := ?_) ?_ ?_
       rotate_left
       ·show Act.put _ (some 27) _ = _
        simp only [Act.put, List.setIfInBounds_toArray, List.set_cons_zero, List.set_cons_succ, i64_w, i32_w]
        rfl
       refine one_ (i := 9) (N := some 28) #[true, true, true, true, true, true, true, true, true, true, false] rfl rfl (one_of HT_.out (by kernel_rfl)) (by decide) (fun K hK => ?_)
       refine Kd.R_append_step (Kd.int .u8) (w0 := w) w.heap.size (by rfl) (.tmp 19) (.tmp 27) 54 5 (.int .u8 0) 1 rfl Try.underlying54 info5 rfl (by decide) (by omega) u8 x8_1 (Go.bits .xor .u8 (bt a0 x9_1) (bt t334 x9_1)) [.int .u8 (Go.bits .xor .u8 (bt a0 x9_1) (bt t334 x9_1))] (fun _ => True) (fun _ => False) rfl rfl ?aP (fun _ hk => hk.elim) ?aF ?aO ?aB ?aS ?aL ?_
       (case aP => exact rfl)
       (case aB => exact (by repeat (first | (with_reducible first | exact HB.out | apply below_alloc | apply pw_below_drewN | apply below_drew1) | exact HB.out)))
       (case aF => exact (fun _ _ => trivial))
       (case aO => exact (by (with_reducible repeat (first | apply Kd.R_alloc | apply Kd.R_drewN | apply Kd.R_drew)); exact HO_8.out))
       (case aS => exact (below_size (by repeat (first | (with_reducible first | exact HB.out | apply below_alloc | apply pw_below_drewN | apply below_drew1) | exact HB.out))))
       (case aL => have := LMc11.out; omega)
       intro v336 w13 ho hb hg hat
       rw [← Ny335.out] at ho
       have n0_ := Aside0.mk (hb)
       have n1_ := Aside0.mk (ho)
       clear HB
       clear HO_8
       have HB := n0_
       have HO337 := n1_
       clear n0_ n1_
       clear ho hb hg hat
       refine hK.out _ _ trivial (fun hHeld => ?_)
       clear hK K
       refine norm_ (a' := ?_) ?_ ?_
       rotate_left
       ·show Act.put _ (some 28) _ = _
        simp only [Act.put, List.setIfInBounds_toArray, List.set_cons_zero, List.set_cons_succ, i64_w, i32_w]
        rfl
       refine pure_ (i := 10) (N := some 8) (v := ?_) (a' := ?_) #[true, true, true, true, true, true, true, true, true, true, true] rfl rfl (any_of HT_.out (by kernel_rfl)) (fun _ _ _ h => h) (Or.inl ⟨by rfl, ?_⟩) ?_ ?_
       rotate_left
       ·intro w'
        go_simp
        with_reducible rfl
       rotate_left
       ·simp only [Act.put, List.setIfInBounds_toArray, List.set_cons_zero, List.set_cons_succ, i64_w, i32_w]
        rfl
       refine done_ (done_of HT_.out (by kernel_rfl)) ?_
       try go_wp2
       go_roundg k1
       case measure => have := HK1.out; omega
       case rel => exact ⟨(y335), (wrap64 (x9_1 + 1)), (by first | rfl | (simp; done) | (simp [*]; done)), H', ⟨by have := HK1.out; omega⟩, ⟨by (with_reducible repeat (first | apply Kd.R_alloc | apply Kd.R_drewN | apply Kd.R_drew)); exact HO337.out⟩, ⟨by repeat (first | (with_reducible first | exact HB.out | apply below_alloc | apply pw_below_drewN | apply below_drew1) | exact HB.out)⟩⟩
      ·rw [if_neg c11] at H
       exact absurd H (by simp)
     ·rw [if_neg c9] at H
      exact absurd H (by simp)
    ·rw [if_neg c7] at H
     exact absurd H (by simp)
   ·rw [if_neg c6] at H
    have c6b0 : decide (x9_1 < (a0.size : Int)) = false := decide_eq_false c6
    clear c6
    obtain rfl := Option.some.inj H
    have hcv14 := own_string (P := Try.prog) Try.underlying54 Try.underlying5 Try.underlying9 (Kd.own_of_R HO_8.out)
    go_wp2
    go_ret
    exact ⟨by first | rfl | (simp [errW_none, errW_some] <;> rfl) | (simp [*, errW_none, errW_some] <;> rfl), by repeat (first | (with_reducible first | exact HB.out | apply below_alloc | apply pw_below_drewN | apply below_drew1) | exact HB.out)⟩

end Go.Proofs.Ytoghhpkmficnmaa.Al

/- What corncribref02.Inverse works on: two rows of rows, as text. -/
namespace Go.Proofs.Ytoghhpkmficnmaa.Al
open Go.RowKit Go.Proofs.Ytoghhpkmficnmaa.GfMath Go.Proofs.Ytoghhpkmficnmaa.GfRef Go.Proofs.Ytoghhpkmficnmaa.Base Go.Proofs.Ytoghhpkmficnmaa.Bytes Go.Proofs.Ytoghhpkmficnmaa.Grid Go.Proofs.YtoghhpkmficnmaaW.PrintWords Go.Proofs.YtoghhpkmficnmaaW.PrintLast Go.Proofs.YtoghhpkmficnmaaW.PrintMore
set_option linter.unusedVariables false
theorem rscale_l0 {n b : Nat} (hb : b < 256) (f : Nat → Int) (hf : ∀ j, j < n → Byte (f j)) (hn : n ≤ 255) : ∀ (d i : Nat), i + d = n →
  Ev (fun k => corncribref01_Scale.l0 k b (rowB n f) (listOf i fun j => mulI b (f j)) i) (rowB n fun j => mulI b (f j))
 |0, i, hd => by
  refine Ev.succ ?_
  simp only [corncribref01_Scale.l0]
  refine Ev.neg (by rw [rowB_size]; omega) ?_
  obtain rfl : i = n := by omega
  exact Ev.now _
 |d + 1, i, hd => by
  refine Ev.succ ?_
  simp only [corncribref01_Scale.l0]
  refine Ev.pos (by rw [rowB_size]; omega) (Ev.pos (by omega) ?_)
  have h1 := hf i (by omega)
  rw [bt_rowB (by omega) h1]
  obtain ⟨x, hx⟩ := Int.eq_ofNat_of_zero_le h1.1
  rw [hx]
  refine Ev.bind (rmul_ev hb (by have := h1.2; omega)) ?_
  rw [listOf_length]
  refine Ev.pos (by omega) ?_
  rw [wrap_suc (by omega)]
  have := rscale_l0 hb f hf hn d (i + 1) (by omega)
  rw [listOf_add i 1] at this
  rw [show listOf 1 (fun j => mulI (b : Int) (f (i + j))) = [((mulN b x : Nat) : Int)] from by
   show [mulI (b : Int) (f (i + 0))] = _
   rw [Nat.add_zero, hx]; rfl] at this
  exact this
theorem rscale_ev {n b : Nat} (hb : b < 256) (f : Nat → Int) (hf : ∀ j, j < n → Byte (f j)) (hn : n ≤ 255) : Ev (fun k => corncribref01_Scale.f k b (rowB n f)) (rowB n fun j => mulI b (f j)) := rscale_l0 hb f hf hn n 0 (by omega)
theorem rplus_l0 {n : Nat} (f g : Nat → Int) (hf : ∀ j, j < n → Byte (f j)) (hg : ∀ j, j < n → Byte (g j)) (hn : n ≤ 255) : ∀ (d i : Nat), i + d = n →
  Ev (fun k => corncribref02_plus.l0 k (rowB n f) (rowB n g) (listOf i fun j => Go.bits .xor .u8 (f j) (g j)) i) (rowB n fun j => Go.bits .xor .u8 (f j) (g j))
 |0, i, hd => by
  refine Ev.succ ?_
  simp only [corncribref02_plus.l0]
  refine Ev.neg (by rw [rowB_size]; omega) ?_
  obtain rfl : i = n := by omega
  exact Ev.now _
 |d + 1, i, hd => by
  refine Ev.succ ?_
  simp only [corncribref02_plus.l0]
  refine Ev.pos (by rw [rowB_size]; omega) (Ev.pos (by omega) (Ev.pos (by rw [rowB_size]; omega) (Ev.pos (by rw [listOf_length]; omega) ?_)))
  rw [bt_rowB (by omega) (hf i (by omega)), bt_rowB (by omega) (hg i (by omega)), wrap_suc (by omega)]
  have := rplus_l0 f g hf hg hn d (i + 1) (by omega)
  rw [listOf_add i 1] at this
  exact this
theorem rplus_ev {n x : Nat} (hx : x < 256) (f g : Nat → Int) (hf : ∀ j, j < n → Byte (f j)) (hg : ∀ j, j < n → Byte (g j)) (hn : n ≤ 255) : Ev (fun k => corncribref02_plus.f k (rowB n f) x (rowB n g)) (rowB n fun j => Go.bits .xor .u8 (f j) (mulI x (g j))) :=
 Ev.bind (rscale_ev hx g hg hn) (rplus_l0 f (fun j => mulI x (g j)) hf (fun j _ => byte_mul _ _) hn n 0 (by omega))
theorem sc_calls {b : Nat} (hb : b < 256) {A : Mx} (hA : By2 A) (c : Nat) {n : Nat} (hn : n ≤ 255) (w : World) :
  Calls Try.prog 42 #[.int .u8 b, .string (rowB n (toI A c))] w fun e w' => e = .returned (.string (rowB n (toI (scaleR c b A) c))) ∧ Below w.heap.size w w' := by
 obtain ⟨k, hk⟩ := Ev.rounds (rscale_ev (n := n) hb (toI A c) (fun j _ => toI_by hA c j) hn)
 rw [rowB_congr (f := fun j => mulI b (toI A c j)) (g := toI (scaleR c b A) c) fun j _ => by unfold toI scaleR mulI; rw [if_pos rfl, Int.toNat_natCast, Int.toNat_natCast]] at hk
 exact corncribref01_Scale.calls k _ _ _ w hk
theorem pl_calls {x : Nat} (hx : x < 256) {A : Mx} (hA : By2 A) (i c : Nat) {n : Nat} (hn : n ≤ 255) (w : World) :
  Calls Try.prog 43 #[.string (rowB n (toI A i)), .int .u8 x, .string (rowB n (toI A c))] w fun e w' => e = .returned (.string (rowB n (fun j => ((A i j ^^^ mulN x (A c j) : Nat) : Int)))) ∧ Below w.heap.size w w' := by
 obtain ⟨k, hk⟩ := Ev.rounds (rplus_ev (n := n) hx (toI A i) (toI A c) (fun j _ => toI_by hA i j) (fun j _ => toI_by hA c j) hn)
 rw [rowB_congr (f := fun j => Go.bits .xor .u8 (toI A i j) (mulI x (toI A c j))) (g := fun j => ((A i j ^^^ mulN x (A c j) : Nat) : Int)) fun j _ => by
  rw [(byte_xor (toI_by hA i j) (byte_mul _ _)).2]
  unfold toI mulI
  simp only [Int.toNat_natCast]] at hk
 exact corncribref02_plus.calls k _ _ _ _ w hk
theorem pl_calls' {x : Nat} (hx : x < 256) {A : Mx} (hA : By2 A) (i c : Nat) {n : Nat} (hn : n ≤ 255) {s t : ByteArray} (hs : s = rowB n (toI A i)) (ht : t = rowB n (toI A c)) (w : World) :
  Calls Try.prog 43 #[.string s, .int .u8 x, .string t] w fun e w' => e = .returned (.string (rowB n (fun j => ((A i j ^^^ mulN x (A c j) : Nat) : Int)))) ∧ Below w.heap.size w w' := by
 subst hs ht
 exact pl_calls hx hA i c hn w
theorem rchk_calls (r c : Int) (s : ByteArray) (w : World) : Calls Try.prog 19 #[.agg #[.int .i64 r, .int .i64 c, .string s]] w fun e w' => e = .returned (.int .i64 (chkE r c s)) ∧ Below w.heap.size w w' := corncribref02_Check.calls r c s _ w (rchk_f r c s)
theorem rrows_calls {n m : Nat} {s : ByteArray} (h : okM n m s) (hn : 1 ≤ n) (w : World) : Calls Try.prog 34 #[.agg #[.int .i64 n, .int .i64 m, .string s]] w fun e w' => ∃ g c, e = .returned (.slice (some ⟨g, 0, none⟩) n c) ∧ w.heap.size ≤ g ∧ g < w'.heap.size ∧ Kd.string.R 9 w' w.heap.size (fun _ => True) (.slice (some ⟨g, 0, none⟩) n c) (rowsB n m (toI (entN m s))) ∧ Below w.heap.size w w' := by
 obtain ⟨k, hk⟩ := Ev.rounds (rows_ev h)
 refine (corncribref02_rows.calls k _ _ _ _ w hk).mono ?_
 rintro e w' ⟨v, rfl, hR, hb⟩
 obtain ⟨g, c, rfl, h1, h2, _⟩ := Kd.R_form hR (by rw [rowsB_len]; omega)
 rw [rowsB_len] at hR ⊢
 exact ⟨g, c, rfl, h1, h2, hR, hb⟩
theorem rone_calls {n : Nat} (h1 : 1 ≤ n) (h2 : n ≤ 255) (w : World) : Calls Try.prog 35 #[.int .i64 n] w fun e w' => e = .returned (.agg #[.int .i64 n, .int .i64 n, .string (cellsOf n n (toI Ix))]) ∧ Below w.heap.size w w' := by
 obtain ⟨k, hk⟩ := Ev.rounds (one_ev h1 h2)
 rw [cellsOf_congr (g := toI Ix) fun i j _ _ => (toI_Ix i j).symm] at hk
 exact corncribref02_One.calls k _ _ _ _ w hk
theorem rowsB_set {n m i : Nat} {f g : Nat → Nat → Int} (hi : i < n) (he : ∀ a j, a < n → j < m → a ≠ i → g a j = f a j) : (rowsB n m f).set i (rowB m (g i)) = rowsB n m g := by
 refine List.ext_getElem (by simp [rowsB]) fun k h1 h2 => ?_
 have hk : k < n := by rw [rowsB_len] at h2; exact h2
 rw [List.getElem_set]
 simp only [rowsB, List.getElem_map, List.getElem_range]
 by_cases e : i = k
 ·subst e; rw [if_pos rfl]
 ·rw [if_neg e]
  exact rowB_congr fun j hj => (he k j hk hj (Ne.symm e)).symm
theorem rowsB_congr {n m : Nat} {f g : Nat → Nat → Int} (he : ∀ a j, a < n → j < m → f a j = g a j) : rowsB n m f = rowsB n m g := by
 unfold rowsB
 refine List.map_congr_left fun a ha => rowB_congr fun j hj => he a j (by simpa using ha) hj
theorem row_at {n : Nat} {A : Mx} (hA : By2 A) {p c : Nat} (hc : c < n) {s : ByteArray} (hs : s = rowB n (toI A p)) : ∀ h : c < s.size, ((s[c]'h).toNat : Int) = ((A p c : Nat) : Int) := fun h => by
 subst hs
 have h1 := bt_at (rowB n (toI A p)) (c : Int) h
 rw [bt_rowB hc (toI_by hA p c)] at h1
 exact h1
structure SI (w0 W : World) (n gq gL cL gR cR : Nat) (A B : Mx) : Prop where
 L : Kd.string.R 9 W w0.heap.size (fun _ => True) (.slice (some ⟨gL, 0, none⟩) n cL) (rowsB n n (toI A))
 R : Kd.string.R 9 W w0.heap.size (fun _ => True) (.slice (some ⟨gR, 0, none⟩) n cR) (rowsB n n (toI B))
 ne : gL ≠ gR
 q : W.heap[gq]? = some (.cells #[.int .i64 0, .int .i64 0, .string ⟨#[]⟩] 24 (0, 0))
 bA : By2 A
 bB : By2 B
 bel : Below w0.heap.size w0 W
section
variable {w0 W W1 : World} {n gq gL cL gR cR : Nat} {A B A' B' : Mx}
theorem SI.below (h : SI w0 W n gq gL cL gR cR A B) (hb : Below W.heap.size W W1) : SI w0 W1 n gq gL cL gR cR A B :=
 ⟨Kd.R_below h.L hb, Kd.R_below h.R hb, h.ne, blk_below h.q hb, h.bA, h.bB, below_step h.bel hb⟩
theorem SI.drewN (h : SI w0 W n gq gL cL gR cR A B) (k : Nat) : SI w0 (W.drewN k) n gq gL cL gR cR A B := h.below (pw_below_drewN (Below.refl _ _) k)
theorem SI.drew (h : SI w0 W n gq gL cL gR cR A B) : SI w0 W.drew n gq gL cL gR cR A B := h.below (below_drew (Below.refl _ _))
theorem SI.cellL (h : SI w0 W n gq gL cL gR cR A B) {i : Nat} (hi : i < n) : W.cell? ⟨gL, i, none⟩ = some (.string (rowB n (toI A i))) ∧ W.frozen? ⟨gL, i, none⟩ = false := by
 have := Kd.R_celln ByteArray.empty h.L (i : Int) (by omega) (by omega)
 rw [Int.toNat_natCast, rowsB_get hi] at this
 exact this
theorem SI.cellR (h : SI w0 W n gq gL cL gR cR A B) {i : Nat} (hi : i < n) : W.cell? ⟨gR, i, none⟩ = some (.string (rowB n (toI B i))) ∧ W.frozen? ⟨gR, i, none⟩ = false := by
 have := Kd.R_celln ByteArray.empty h.R (i : Int) (by omega) (by omega)
 rw [Int.toNat_natCast, rowsB_get hi] at this
 exact this
theorem ne_of_typed {g : Nat} (hg : ∃ cells, W.heap[g]? = some (.cells cells 9 (0, 0))) {cs : Array Value} (h : W.heap[gq]? = some (.cells cs 24 (0, 0))) : gq ≠ g := by
 rintro rfl
 obtain ⟨c, hc⟩ := hg
 rw [hc] at h
 injection h with h
 injection h with _ h _
 exact absurd h (by decide)
theorem SI.setL (h : SI w0 W n gq gL cL gR cR A B) {i : Nat} (hi : i < n) (hA : By2 A') (he : ∀ a j, a ≠ i → A' a j = A a j) {s : ByteArray} (hs : s = rowB n (toI A' i)) : SI w0 (W.setCell ⟨gL, i, none⟩ (.string s)) n gq gL cL gR cR A' B := by
 subst hs
 obtain ⟨h1, h2⟩ := Kd.R_putg h.L (i : Int) (rowB n (toI A' i))
 rw [Int.toNat_natCast] at h1 h2
 rw [rowsB_set hi (fun a j _ _ hne => by unfold toI; rw [he a j hne])] at h1
 exact ⟨h1, Kd.R_grown1 h.R rfl h2 (by simp only [Value.ownBlock]; intro hc; exact h.ne (Option.some.inj hc)), h.ne, blk_grown h.q h2 (fun hc => ne_of_typed (Kd.R_typed h.L gL (by simp [Value.ownBlock])) h.q (Option.some.inj hc)), hA, h.bB, below_set h.bel (Kd.R_base h.L gL (by simp [Value.ownBlock]))⟩
theorem SI.setR (h : SI w0 W n gq gL cL gR cR A B) {i : Nat} (hi : i < n) (hB : By2 B') (he : ∀ a j, a ≠ i → B' a j = B a j) {s : ByteArray} (hs : s = rowB n (toI B' i)) : SI w0 (W.setCell ⟨gR, i, none⟩ (.string s)) n gq gL cL gR cR A B' := by
 subst hs
 obtain ⟨h1, h2⟩ := Kd.R_putg h.R (i : Int) (rowB n (toI B' i))
 rw [Int.toNat_natCast] at h1 h2
 rw [rowsB_set hi (fun a j _ _ hne => by unfold toI; rw [he a j hne])] at h1
 exact ⟨Kd.R_grown1 h.L rfl h2 (by simp only [Value.ownBlock]; intro hc; exact h.ne (Option.some.inj hc).symm), h1, h.ne, blk_grown h.q h2 (fun hc => ne_of_typed (Kd.R_typed h.R gR (by simp [Value.ownBlock])) h.q (Option.some.inj hc)), h.bA, hB, below_set h.bel (Kd.R_base h.R gR (by simp [Value.ownBlock]))⟩
theorem SI.congr (h : SI w0 W n gq gL cL gR cR A B) (bA : By2 A') (bB : By2 B') (hA : ∀ i j, i < n → j < n → A i j = A' i j) (hB : ∀ i j, i < n → j < n → B i j = B' i j) : SI w0 W n gq gL cL gR cR A' B' :=
 ⟨by rw [← rowsB_congr (f := toI A) fun a j ha hj => by unfold toI; rw [hA a j ha hj]]; exact h.L, by rw [← rowsB_congr (f := toI B) fun a j ha hj => by unfold toI; rw [hB a j ha hj]]; exact h.R, h.ne, h.q, bA, bB, h.bel⟩
theorem si_start {s : ByteArray} (hL : Kd.string.R 9 W1 w0.heap.size (fun _ => True) (.slice (some ⟨gL, 0, none⟩) n cL) (rowsB n n (toI (entN n s)))) (hR : Kd.string.R 9 W1 W.heap.size (fun _ => True) (.slice (some ⟨gR, 0, none⟩) n cR) (rowsB n n (toI (entN n (cellsOf n n (toI Ix))))))
  (hlt : gL < W.heap.size) (hge : W.heap.size ≤ gR) (hB : w0.heap.size ≤ W.heap.size) (hq : W1.heap[gq]? = some (.cells #[.int .i64 0, .int .i64 0, .string ⟨#[]⟩] 24 (0, 0))) (hb : Below w0.heap.size w0 W1) : SI w0 W1 n gq gL cL gR cR (entN n s) Ix := by
 rw [rowsB_congr (f := toI (entN n (cellsOf n n (toI Ix)))) (g := toI Ix) fun a j ha hj => by unfold toI; exact congrArg Int.ofNat (ent_toI Ix_by ha hj)] at hR
 exact ⟨hL, Kd.R_lower hR hB, by omega, hq, entN_by n s, Ix_by, hb⟩
/-- A row, put into its place; then the other. -/
def put1 (c p : Nat) (A : Mx) : Mx := fun a => if a = c then A p else A a
theorem put1_by {c p : Nat} (h : By2 A) : By2 (put1 c p A) := fun i j => by unfold put1; split <;> exact h _ _
theorem swapR_by {c p : Nat} (h : By2 A) : By2 (swapR c p A) := fun i j => by
 unfold swapR
 split
 ·exact h _ _
 ·split <;> exact h _ _
theorem SI.swapL (h : SI w0 W n gq gL cL gR cR A B) {c p : Nat} (hc : c < n) (hp : p < n) : SI w0 ((W.setCell ⟨gL, c, none⟩ (.string (rowB n (toI A p)))).setCell ⟨gL, p, none⟩ (.string (rowB n (toI A c)))) n gq gL cL gR cR (swapR c p A) B := by
 refine (h.setL (A' := put1 c p A) hc (put1_by h.bA) (fun a j hne => by unfold put1; rw [if_neg hne]) (rowB_congr fun j _ => by unfold toI put1; rw [if_pos rfl])).setL hp (swapR_by h.bA) (fun a j hne => by unfold swapR put1; split; rfl; first | rfl | rw [if_neg hne]) (rowB_congr fun j _ => ?_)
 unfold toI swapR
 by_cases e : p = c
 ·rw [if_pos e, e]
 ·rw [if_neg e, if_pos rfl]
theorem SI.swapRR (h : SI w0 W n gq gL cL gR cR A B) {c p : Nat} (hc : c < n) (hp : p < n) : SI w0 ((W.setCell ⟨gR, c, none⟩ (.string (rowB n (toI B p)))).setCell ⟨gR, p, none⟩ (.string (rowB n (toI B c)))) n gq gL cL gR cR A (swapR c p B) := by
 refine (h.setR (B' := put1 c p B) hc (put1_by h.bB) (fun a j hne => by unfold put1; rw [if_neg hne]) (rowB_congr fun j _ => by unfold toI put1; rw [if_pos rfl])).setR hp (swapR_by h.bB) (fun a j hne => by unfold swapR put1; split; rfl; first | rfl | rw [if_neg hne]) (rowB_congr fun j _ => ?_)
 unfold toI swapR
 by_cases e : p = c
 ·rw [if_pos e, e]
 ·rw [if_neg e, if_pos rfl]
end
theorem elimK_next {c i : Nat} {x : Nat → Nat} {A : Mx} (h : i ≠ c) (j : Nat) : elimK c x (i + 1) A i j = elimK c x i A i j ^^^ mulN (x i) (elimK c x i A c j) := by
 rw [elimK_at, elimK_self]
 unfold elimK elimR
 rw [if_pos (by omega), if_neg h]
theorem elimK_else {c i : Nat} {x : Nat → Nat} {A : Mx} {a j : Nat} (h : a ≠ i) : elimK c x (i + 1) A a j = elimK c x i A a j := by
 unfold elimK
 by_cases e : a < i
 ·rw [if_pos e, if_pos (by omega)]
 ·rw [if_neg e, if_neg (by omega)]
end Go.Proofs.Ytoghhpkmficnmaa.Al

/- corncribref02.Inverse by its contract. -/
namespace Go.Proofs.Ytoghhpkmficnmaa.Al
open Go.RowKit Go.Proofs.Ytoghhpkmficnmaa.GfMath Go.Proofs.Ytoghhpkmficnmaa.GfRef Go.Proofs.Ytoghhpkmficnmaa.Base Go.Proofs.Ytoghhpkmficnmaa.Bytes Go.Proofs.Ytoghhpkmficnmaa.Grid Go.Proofs.YtoghhpkmficnmaaW.PrintWords Go.Proofs.YtoghhpkmficnmaaW.PrintLast Go.Proofs.YtoghhpkmficnmaaW.PrintMore
set_option linter.unusedVariables false
set_option linter.unusedSimpArgs false
set_option linter.unusedVariables false
set_option linter.unusedSimpArgs false
set_option maxHeartbeats 8000000 in
set_option maxRecDepth 100000 in
theorem rinv_bad (r c : Int) (s : ByteArray) (w : World) (h : ¬ (okM r c s ∧ r = c)) :
  Calls Try.prog 27 #[.agg #[.int .i64 r, .int .i64 c, .string s]] w fun e w' => e = .returned (mrV (errM 4)) ∧ Below w.heap.size w w' := by
 by_cases h1 : okM r c s
 ·have h2 : r ≠ c := fun e => h ⟨h1, e⟩
  have h4 : chkE r c s = 0 := if_pos h1
  have H4 := Aside0.mk h4
  have n1 : (r == c) = false := beq_eq_false_iff_ne.2 h2
  have n2 : (r != c) = true := bne_iff_ne.2 h2
  clear h h1 h2 h4
  go_enter Try.func27, Try.ntmps27
  go_wp2_with (first | ((with_reducible refine gate_dst (N := 1) rfl ?_); refine box_event ?hg (N := 1) ?hd (cs := #[.int .i64 r, .int .i64 c, .string s]) (t := 24) ?hr ?_; (case hd => rfl); (case hg => rfl); (case hr => first | (go_simp; done) | (go_simp; rfl)); intro gb hg w1 hbox hb; have f0 : w1.cell? ⟨gb, 0, none⟩ = some (.int .i64 r) := (blk_cell hbox 0).trans rfl; have f1 : w1.cell? ⟨gb, 1, none⟩ = some (.int .i64 c) := (blk_cell hbox 1).trans rfl; have f2 : w1.cell? ⟨gb, 2, none⟩ = some (.string s) := (blk_cell hbox 2).trans rfl; have HBX := Aside0.mk hbox; have HB1 := Aside0.mk hb; clear hg hbox hb) | ((with_reducible refine gate_dst (N := 2) rfl ?_); refine box_event ?hg (N := 2) ?hd (cs := #[.int .i64 0, .int .i64 0, .string ⟨#[]⟩]) (t := 24) ?hr ?_; (case hd => rfl); (case hg => rfl); (case hr => first | (go_simp; done) | (go_simp; rfl)); intro gq hg w2 hbox hb; have HQ := Aside0.mk (show w.heap.size ≤ gq from by have := HB1.out.size; omega); have HQX := Aside0.mk hbox; have HB2 := Aside0.mk (below_step HB1.out hb); have hbx := blk_below HBX.out hb; have f0 : w2.cell? ⟨gb, 0, none⟩ = some (.int .i64 r) := (blk_cell hbx 0).trans rfl; have f1 : w2.cell? ⟨gb, 1, none⟩ = some (.int .i64 c) := (blk_cell hbx 1).trans rfl; have f2 : w2.cell? ⟨gb, 2, none⟩ = some (.string s) := (blk_cell hbx 2).trans rfl; have HBX2 := Aside0.mk hbx; clear hg hbox hb hbx) | (go_at_call 19; refine (rchk_calls r c s _).mono ?_; rintro e w3 ⟨rfl, hb⟩; rw [H4.out]; have hq := blk_below HQX.out hb; have g0 : w3.cell? ⟨gb, 0, none⟩ = some (.int .i64 r) := (blk_cell (blk_below HBX2.out hb) 0).trans rfl; have g1 : w3.cell? ⟨gb, 1, none⟩ = some (.int .i64 c) := (blk_cell (blk_below HBX2.out hb) 1).trans rfl; have q0 : w3.cell? ⟨gq, 0, none⟩ = some (.int .i64 0) := (blk_cell hq 0).trans rfl; have q1 : w3.cell? ⟨gq, 1, none⟩ = some (.int .i64 0) := (blk_cell hq 1).trans rfl; have q2 : w3.cell? ⟨gq, 2, none⟩ = some (.string ⟨#[]⟩) := (blk_cell hq 2).trans rfl; have z0 := blk_frozen hq 0; have z1 := blk_frozen hq 1; have z2 := blk_frozen hq 2; have HQ3 := Aside0.mk hq; have HB3 := Aside0.mk (below_step HB2.out hb); clear hq hb))
  exact mr_end 0 0 ⟨#[]⟩ 4 rfl rfl rfl HQ3.out (by kernel_rfl) ⟨rfl, below_set (below_set (below_set HB3.out HQ.out) HQ.out) HQ.out⟩
 ·have h4 : chkE r c s = 4 := if_neg h1
  have H4 := Aside0.mk h4
  clear h h1 h4
  go_enter Try.func27, Try.ntmps27
  go_wp2_with (first | ((with_reducible refine gate_dst (N := 1) rfl ?_); refine box_event ?hg (N := 1) ?hd (cs := #[.int .i64 r, .int .i64 c, .string s]) (t := 24) ?hr ?_; (case hd => rfl); (case hg => rfl); (case hr => first | (go_simp; done) | (go_simp; rfl)); intro gb hg w1 hbox hb; have f0 : w1.cell? ⟨gb, 0, none⟩ = some (.int .i64 r) := (blk_cell hbox 0).trans rfl; have f1 : w1.cell? ⟨gb, 1, none⟩ = some (.int .i64 c) := (blk_cell hbox 1).trans rfl; have f2 : w1.cell? ⟨gb, 2, none⟩ = some (.string s) := (blk_cell hbox 2).trans rfl; have HBX := Aside0.mk hbox; have HB1 := Aside0.mk hb; clear hg hbox hb) | ((with_reducible refine gate_dst (N := 2) rfl ?_); refine box_event ?hg (N := 2) ?hd (cs := #[.int .i64 0, .int .i64 0, .string ⟨#[]⟩]) (t := 24) ?hr ?_; (case hd => rfl); (case hg => rfl); (case hr => first | (go_simp; done) | (go_simp; rfl)); intro gq hg w2 hbox hb; have HQ := Aside0.mk (show w.heap.size ≤ gq from by have := HB1.out.size; omega); have HQX := Aside0.mk hbox; have HB2 := Aside0.mk (below_step HB1.out hb); have hbx := blk_below HBX.out hb; have f0 : w2.cell? ⟨gb, 0, none⟩ = some (.int .i64 r) := (blk_cell hbx 0).trans rfl; have f1 : w2.cell? ⟨gb, 1, none⟩ = some (.int .i64 c) := (blk_cell hbx 1).trans rfl; have f2 : w2.cell? ⟨gb, 2, none⟩ = some (.string s) := (blk_cell hbx 2).trans rfl; have HBX2 := Aside0.mk hbx; clear hg hbox hb hbx) | (go_at_call 19; refine (rchk_calls r c s _).mono ?_; rintro e w3 ⟨rfl, hb⟩; rw [H4.out]; have hq := blk_below HQX.out hb; have q0 : w3.cell? ⟨gq, 0, none⟩ = some (.int .i64 0) := (blk_cell hq 0).trans rfl; have q1 : w3.cell? ⟨gq, 1, none⟩ = some (.int .i64 0) := (blk_cell hq 1).trans rfl; have q2 : w3.cell? ⟨gq, 2, none⟩ = some (.string ⟨#[]⟩) := (blk_cell hq 2).trans rfl; have z0 := blk_frozen hq 0; have z1 := blk_frozen hq 1; have z2 := blk_frozen hq 2; have HQ3 := Aside0.mk hq; have HB3 := Aside0.mk (below_step HB2.out hb); clear hq hb))
  exact mr_end 0 0 ⟨#[]⟩ 4 rfl rfl rfl HQ3.out (by kernel_rfl) ⟨rfl, below_set (below_set (below_set HB3.out HQ.out) HQ.out) HQ.out⟩
def rg27_13_T : Bool × List (List Nat × List Nat) := (true, [([], []), ([], []), ([], []), ([], []), ([], []), ([], []), ([4, 5], [4, 5]), ([6], [6]), ([], []), ([], []), ([8, 9], [8, 9]), ([10], [10]), ([0, 1, 0, 1, 4, 5, 6, 7, 11], [0, 1]), ([12, 7, 0, 1, 4, 5, 6, 7, 11], [7, 12]), ([2, 3, 0, 1, 2, 3, 4, 5, 6, 7, 8, 9, 10, 11, 12, 13], [2, 3]), ([14, 11, 13, 0, 1, 2, 3, 4, 5, 6, 7, 8, 9, 10, 11, 12, 13], [11, 14])])
def rg27_13_B : List Nat := [0, 0, 0, 0, 0, 0, 48, 112, 0, 0, 768, 1792, 4083, 8179, 16383, 32767]
theorem rg27_13_tab : rtab .any (opsOf Try.f27 13) = rg27_13_T := by kernel_rfl
theorem rg27_13_bits : waitsOk rg27_13_T.2 rg27_13_B = true := by kernel_rfl
def rg27_14_T : Bool × List (List Nat × List Nat) := (true, [([], []), ([], []), ([], []), ([], []), ([], []), ([], []), ([4, 5], [4, 5]), ([6], [6]), ([], []), ([], []), ([8, 9], [8, 9]), ([10], [10]), ([0, 1, 0, 1, 4, 5, 6, 7, 11], [0, 1]), ([12, 7, 0, 1, 4, 5, 6, 7, 11], [7, 12]), ([2, 3, 0, 1, 2, 3, 4, 5, 6, 7, 8, 9, 10, 11, 12, 13], [2, 3]), ([14, 11, 13, 0, 1, 2, 3, 4, 5, 6, 7, 8, 9, 10, 11, 12, 13], [11, 14])])
def rg27_14_B : List Nat := [0, 0, 0, 0, 0, 0, 48, 112, 0, 0, 768, 1792, 4083, 8179, 16383, 32767]
theorem rg27_14_tab : rtab .any (opsOf Try.f27 14) = rg27_14_T := by kernel_rfl
theorem rg27_14_bits : waitsOk rg27_14_T.2 rg27_14_B = true := by kernel_rfl
def rg27_23_T : Bool × List (List Nat × List Nat) := (true, [([], []), ([], []), ([], []), ([], []), ([2, 3], [2, 3]), ([4], [4]), ([], []), ([], []), ([], []), ([7, 8], [7, 8]), ([9], [9]), ([5, 6, 10], [5, 6, 10]), ([0, 1, 0, 1, 2, 3, 4, 5, 6, 7, 8, 9, 10, 11], [0, 1]), ([12, 11, 11, 0, 1, 2, 3, 4, 5, 6, 7, 8, 9, 10, 11], [11, 12])])
def rg27_23_B : List Nat := [0, 0, 0, 0, 12, 28, 0, 0, 0, 384, 896, 2044, 4095, 8191]
theorem rg27_23_tab : rtab .any (opsOf Try.f27 23) = rg27_23_T := by kernel_rfl
theorem rg27_23_bits : waitsOk rg27_23_T.2 rg27_23_B = true := by kernel_rfl
def rg27_24_T : Bool × List (List Nat × List Nat) := (true, [([], []), ([], []), ([], []), ([], []), ([2, 3], [2, 3]), ([4], [4]), ([], []), ([], []), ([], []), ([7, 8], [7, 8]), ([9], [9]), ([5, 6, 10], [5, 6, 10]), ([0, 1, 0, 1, 2, 3, 4, 5, 6, 7, 8, 9, 10, 11], [0, 1]), ([12, 11, 11, 0, 1, 2, 3, 4, 5, 6, 7, 8, 9, 10, 11], [11, 12])])
def rg27_24_B : List Nat := [0, 0, 0, 0, 12, 28, 0, 0, 0, 384, 896, 2044, 4095, 8191]
theorem rg27_24_tab : rtab .any (opsOf Try.f27 24) = rg27_24_T := by kernel_rfl
theorem rg27_24_bits : waitsOk rg27_24_T.2 rg27_24_B = true := by kernel_rfl
set_option maxHeartbeats 8000000 in
set_option maxRecDepth 100000 in
theorem rinv_good (n : Nat) (s : ByteArray) (w : World) (h : okM n n s) (R : MR) (hR : invV n n s = R) :
  Calls Try.prog 27 #[.agg #[.int .i64 n, .int .i64 n, .string s]] w fun e w' => e = .returned (mrV R) ∧ Below w.heap.size w w' := by
 have h4 : chkE n n s = 0 := if_pos h
 have H4 := Aside0.mk h4
 have HM := Aside0.mk h
 have hn1 : 1 ≤ n := by have := h.1; omega
 have hn2 : n ≤ 255 := by have := h.2.1; omega
 have hR1 : (match gj n (entN n s) n with | some q => ((n : Int), (n : Int), cellsOf n n (toI q.2), (0 : Int)) | none => errM 20) = R := by
  rw [← hR]; unfold invV; rw [if_pos ⟨h, rfl⟩, Int.toNat_natCast]; first | done | rfl
 have HR := Aside0.mk hR1
 have d1 : ((n : Int) == (n : Int)) = true := by simp
 have d2 : ((n : Int) != (n : Int)) = false := by simp
 clear h h4 hR hR1
 go_enter Try.func27, Try.ntmps27
 go_wp2_with (first | ((with_reducible refine gate_dst (N := 1) rfl ?_); refine box_event ?hg (N := 1) ?hd (cs := #[.int .i64 n, .int .i64 n, .string s]) (t := 24) ?hr ?_; (case hd => rfl); (case hg => rfl); (case hr => first | (go_simp; done) | (go_simp; rfl)); intro gb hg w1 hbox hb; have f0 : w1.cell? ⟨gb, 0, none⟩ = some (.int .i64 n) := (blk_cell hbox 0).trans rfl; have f1 : w1.cell? ⟨gb, 1, none⟩ = some (.int .i64 n) := (blk_cell hbox 1).trans rfl; have f2 : w1.cell? ⟨gb, 2, none⟩ = some (.string s) := (blk_cell hbox 2).trans rfl; have HBX := Aside0.mk hbox; have HB1 := Aside0.mk hb; clear hg hbox hb) | ((with_reducible refine gate_dst (N := 2) rfl ?_); refine box_event ?hg (N := 2) ?hd (cs := #[.int .i64 0, .int .i64 0, .string ⟨#[]⟩]) (t := 24) ?hr ?_; (case hd => rfl); (case hg => rfl); (case hr => first | (go_simp; done) | (go_simp; rfl)); intro gq hg w2 hbox hb; have HQ := Aside0.mk (show w.heap.size ≤ gq from by have := HB1.out.size; omega); have HQ2 := Aside0.mk hbox; have HB2 := Aside0.mk (below_step HB1.out hb); have hbx := blk_below HBX.out hb; clear f0 f1 f2; have f0 : w2.cell? ⟨gb, 0, none⟩ = some (.int .i64 n) := (blk_cell hbx 0).trans rfl; have f1 : w2.cell? ⟨gb, 1, none⟩ = some (.int .i64 n) := (blk_cell hbx 1).trans rfl; have f2 : w2.cell? ⟨gb, 2, none⟩ = some (.string s) := (blk_cell hbx 2).trans rfl; have HBX2 := Aside0.mk hbx; clear hg hbox hb hbx) | (go_at_call 19; refine (rchk_calls n n s _).mono ?_; rintro e w3 ⟨rfl, hb⟩; rw [H4.out]; have hbx := blk_below HBX2.out hb; clear f0 f1 f2; have f0 : w3.cell? ⟨gb, 0, none⟩ = some (.int .i64 n) := (blk_cell hbx 0).trans rfl; have f1 : w3.cell? ⟨gb, 1, none⟩ = some (.int .i64 n) := (blk_cell hbx 1).trans rfl; have f2 : w3.cell? ⟨gb, 2, none⟩ = some (.string s) := (blk_cell hbx 2).trans rfl; have HQ3 := Aside0.mk (blk_below HQ2.out hb); have HB3 := Aside0.mk (below_step HB2.out hb); clear hb hbx) | (go_at_call 34; (with_reducible refine (rrows_calls HM.out hn1 _).mono ?_); rintro e w4 ⟨gL, cL, rfl, hg1, hg2, hL, hb⟩; clear f0 f1 f2; have HL4 := Aside0.mk (Kd.R_lower hL HB3.out.size); have HGL := Aside0.mk hg2; have HQ4 := Aside0.mk (blk_below HQ3.out hb); have HB4 := Aside0.mk (below_step HB3.out hb); clear hg1 hg2 hL hb) | (go_at_call 35; refine (rone_calls hn1 hn2 _).mono ?_; rintro e w5 ⟨rfl, hb⟩; have HL5 := Aside0.mk (Kd.R_below HL4.out hb); have HGL5 := Aside0.mk (Nat.lt_of_lt_of_le HGL.out hb.size); have HQ5 := Aside0.mk (blk_below HQ4.out hb); have HB5 := Aside0.mk (below_step HB4.out hb); clear hb) | (go_at_call 34; (with_reducible refine (rrows_calls (ok_cells (toI Ix) hn1 hn2 hn1 hn2) hn1 _).mono ?_); rintro e w6 ⟨gR, cR, rfl, hg1, hg2, hR, hb⟩; have HI6 := Aside0.mk (si_start (Kd.R_below HL5.out hb) hR HGL5.out hg1 HB5.out.size (blk_below HQ5.out hb) (below_step HB5.out hb)); clear hg1 hg2 hR hb))
 go_loopw [7, 8, 9, 10, 11, 12] (fun v7 v8 v9 v10 v11 v12 wr => ∃ (c : Nat) (q : Mx × Mx), v7 = .int .i64 c ∧ c ≤ n ∧ Aside0 (gj n (entN n s) c = some q) ∧ Aside0 (SI w wr n gq gL cL gR cR q.1 q.2)) (fun v7 _ _ _ _ _ _ => n - (intOf v7).toNat)
 case atStart => exact ⟨0, (entN n s, Ix), rfl, Nat.zero_le _, ⟨rfl⟩, HI6⟩
 case round =>
  obtain ⟨c, q, rfl, hc, HJ, HI⟩ := hrel
  obtain ⟨wo, rfl⟩ : ∃ wo : World, wo = wr := ⟨_, rfl⟩
  clear HI6
  by_cases hlt : c < n
  ·have c1 : decide ((c : Int) < (n : Int)) = true := decide_eq_true (by omega)
   have c2 : decide (c < n) = true := decide_eq_true hlt
   go_wp2
   go_loop [8] (fun v8 => ∃ p : Nat, v8 = .int .i64 p ∧ c ≤ p ∧ p ≤ n ∧ Aside0 (∀ i, c ≤ i → i < p → q.1 i c = 0)) (fun v8 => n - (intOf v8).toNat)
   case atStart => exact ⟨c, rfl, Nat.le_refl _, hc, ⟨fun i h1 h2 => absurd h1 (by omega)⟩⟩
   case round =>
    obtain ⟨p, rfl, hp1, hp2, HZ⟩ := hrel
    by_cases hpn : p < n
    ·obtain ⟨sp, hsp⟩ : ∃ sp, sp = rowB n (toI q.1 p) := ⟨_, rfl⟩
     have hcell := (HI.out.cellL hpn).1
     rw [← hsp] at hcell
     have HSP := Aside0.mk hsp
     have hsz : sp.size = n := by rw [hsp, rowB_size]
     have hx := row_at HI.out.bA hlt hsp
     have u5 : (c < sp.size) = True := eq_true (by omega)
     have u6 : decide (c < sp.size) = true := decide_eq_true (by omega)
     have u1 : (0 ≤ (c : Int)) = True := eq_true (by omega)
     have u2 : ((c : Int) < (sp.size : Int)) = True := eq_true (by omega)
     have u3 : decide (0 ≤ (c : Int)) = true := decide_eq_true (by omega)
     have u4 : decide ((c : Int) < (sp.size : Int)) = true := decide_eq_true (by omega)
     have d1 : decide ((p : Int) < (n : Int)) = true := decide_eq_true (by omega)
     have d2 : decide (p < n) = true := decide_eq_true hpn
     have HSZ := Aside0.mk hsz
     clear hsp hsz
     by_cases hz : q.1 p c = 0
     ·rw [show ((q.1 p c : Nat) : Int) = 0 from by rw [hz]; rfl] at hx
      have HZ' : Aside0 (∀ i, c ≤ i → i < p + 1 → q.1 i c = 0) := ⟨fun i h1 h2 => by
       by_cases e : i = p
       ·rw [e]; exact hz
       ·exact HZ.out i h1 (by omega)⟩
      clear hz
      go_wp2
      go_round
      case rel => exact ⟨p + 1, by go_num, by omega, hpn, HZ'⟩
      case measure => simp [intOf]; omega
     ·have hz1 : (((q.1 p c : Nat) : Int) == 0) = false := beq_eq_false_iff_ne.2 (by omega)
      have HNZ := Aside0.mk hz
      clear hz
      have HPV : Aside0 (piv q.1 c (n - c) c = p) := ⟨(piv_uniq hp1 (by omega) HZ.out (fun _ => HNZ.out)).symm⟩
      have e3 : ((p : Int) == (n : Int)) = false := beq_eq_false_iff_ne.2 (by omega)
      go_wp2
      (try clear hcell)
      (try clear e3)
      (try clear hz1)
      obtain ⟨sc, hsc⟩ : ∃ sc, sc = rowB n (toI q.1 c) := ⟨_, rfl⟩
      have HSC := Aside0.mk hsc
      have HId := HI.out.drew
      have hpd := (HId.cellL hpn).1
      have hfp := (HId.cellL hpn).2
      have hcd := (HId.cellL hlt).1
      have hfc := (HId.cellL hlt).2
      rw [← HSP.out] at hpd
      rw [← hsc] at hcd
      clear hsc
      refine start_ (n := 16) (S := fun w' => w'.cell? ⟨gL, c, none⟩ = some (.string sc) ∧ w'.cell? ⟨gL, p, none⟩ = some (.string sp)) (ds := [13, 15]) #[false, false, false, false, false, false, false, false, false, false, false, false, false, false, false, false] (by kernel_rfl) rfl rfl ⟨hcd, hpd⟩ (fun hHeld => ?_)
      refine with_tabW rg27_13_tab rg27_13_bits (fun HT_ HW_ => ?_)
      obtain ⟨W1, hW1⟩ : ∃ W1, W1 = wo.drew := ⟨_, rfl⟩
      rw [← hW1] at hHeld HId hcd hpd hfc hfp ⊢
      have HI1 := Aside0.mk HId
      clear hW1 HId
      refine pure_ (i := 0) (N := some 57) (v := ?_) (a' := ?_) #[true, false, false, false, false, false, false, false, false, false, false, false, false, false, false, false] rfl rfl (any_of HT_.out (by kernel_rfl)) (fun _ _ _ h => h) (Or.inl ⟨by rfl, ?_⟩) ?_ ?_
      rotate_left
      ·intro w'
       go_simp
       with_reducible rfl
      rotate_left
      ·simp only [Act.put, List.setIfInBounds_toArray, List.set_cons_zero, List.set_cons_succ, i64_w, i32_w]
       rfl
      refine pure_ (i := 1) (N := some 58) (v := ?_) (a' := ?_) #[true, true, false, false, false, false, false, false, false, false, false, false, false, false, false, false] rfl rfl (any_of HT_.out (by kernel_rfl)) (fun _ _ _ h => h) (Or.inl ⟨by rfl, ?_⟩) ?_ ?_
      rotate_left
      ·intro w'
       go_simp
       with_reducible rfl
      rotate_left
      ·simp only [Act.put, List.setIfInBounds_toArray, List.set_cons_zero, List.set_cons_succ, i64_w, i32_w]
       rfl
      refine pure_ (i := 2) (N := some 59) (v := ?_) (a' := ?_) #[true, true, true, false, false, false, false, false, false, false, false, false, false, false, false, false] rfl rfl (any_of HT_.out (by kernel_rfl)) (fun _ _ _ h => h) (Or.inl ⟨by rfl, ?_⟩) ?_ ?_
      rotate_left
      ·intro w'
       go_simp
       with_reducible rfl
      rotate_left
      ·simp only [Act.put, List.setIfInBounds_toArray, List.set_cons_zero, List.set_cons_succ, i64_w, i32_w]
       rfl
      refine pure_ (i := 3) (N := some 60) (v := ?_) (a' := ?_) #[true, true, true, true, false, false, false, false, false, false, false, false, false, false, false, false] rfl rfl (any_of HT_.out (by kernel_rfl)) (fun _ _ _ h => h) (Or.inl ⟨by rfl, ?_⟩) ?_ ?_
      rotate_left
      ·intro w'
       go_simp
       with_reducible rfl
      rotate_left
      ·simp only [Act.put, List.setIfInBounds_toArray, List.set_cons_zero, List.set_cons_succ, i64_w, i32_w]
       rfl
      refine pure_ (i := 4) (N := some 61) (v := ?_) (a' := ?_) #[true, true, true, true, true, false, false, false, false, false, false, false, false, false, false, false] rfl rfl (any_of HT_.out (by kernel_rfl)) (fun _ _ _ h => h) (Or.inl ⟨by rfl, ?_⟩) ?_ ?_
      rotate_left
      ·intro w'
       go_simp
       with_reducible rfl
      rotate_left
      ·simp only [Act.put, List.setIfInBounds_toArray, List.set_cons_zero, List.set_cons_succ, i64_w, i32_w]
       rfl
      refine pure_ (i := 5) (N := some 62) (v := ?_) (a' := ?_) #[true, true, true, true, true, true, false, false, false, false, false, false, false, false, false, false] rfl rfl (any_of HT_.out (by kernel_rfl)) (fun _ _ _ h => h) (Or.inl ⟨by rfl, ?_⟩) ?_ ?_
      rotate_left
      ·intro w'
       go_simp
       with_reducible rfl
      rotate_left
      ·simp only [Act.put, List.setIfInBounds_toArray, List.set_cons_zero, List.set_cons_succ, i64_w, i32_w]
       rfl
      refine pure_ (i := 6) (N := some 63) (v := ?_) (a' := ?_) #[true, true, true, true, true, true, true, false, false, false, false, false, false, false, false, false] rfl rfl (any_of HT_.out (by kernel_rfl)) (fun _ _ _ h => h) (Or.inl ⟨by rfl, ?_⟩) ?_ ?_
      rotate_left
      ·intro w'
       go_simp
       with_reducible rfl
      rotate_left
      ·simp only [Act.put, List.setIfInBounds_toArray, List.set_cons_zero, List.set_cons_succ, i64_w, i32_w]
       rfl
      refine take_ (i := 7) (N := some 64) (v := ?_) (a' := ?_) #[true, true, true, true, true, true, true, true, false, false, false, false, false, false, false, false] rfl rfl (take_ofW HT_.out HW_.out (by kernel_rfl)) (fun _ _ _ h => h) (Or.inl ⟨by rfl, ?_⟩) hHeld ?_ ?_
      rotate_left
      ·rintro w' ⟨s0, s1⟩
       go_simp
       with_reducible rfl
      rotate_left
      ·simp only [Act.put, List.setIfInBounds_toArray, List.set_cons_zero, List.set_cons_succ, i64_w, i32_w]
       rfl
      refine pure_ (i := 8) (N := some 65) (v := ?_) (a' := ?_) #[true, true, true, true, true, true, true, true, true, false, false, false, false, false, false, false] rfl rfl (any_of HT_.out (by kernel_rfl)) (fun _ _ _ h => h) (Or.inl ⟨by rfl, ?_⟩) ?_ ?_
      rotate_left
      ·intro w'
       go_simp
       with_reducible rfl
      rotate_left
      ·simp only [Act.put, List.setIfInBounds_toArray, List.set_cons_zero, List.set_cons_succ, i64_w, i32_w]
       rfl
      refine pure_ (i := 9) (N := some 66) (v := ?_) (a' := ?_) #[true, true, true, true, true, true, true, true, true, true, false, false, false, false, false, false] rfl rfl (any_of HT_.out (by kernel_rfl)) (fun _ _ _ h => h) (Or.inl ⟨by rfl, ?_⟩) ?_ ?_
      rotate_left
      ·intro w'
       go_simp
       with_reducible rfl
      rotate_left
      ·simp only [Act.put, List.setIfInBounds_toArray, List.set_cons_zero, List.set_cons_succ, i64_w, i32_w]
       rfl
      refine pure_ (i := 10) (N := some 67) (v := ?_) (a' := ?_) #[true, true, true, true, true, true, true, true, true, true, true, false, false, false, false, false] rfl rfl (any_of HT_.out (by kernel_rfl)) (fun _ _ _ h => h) (Or.inl ⟨by rfl, ?_⟩) ?_ ?_
      rotate_left
      ·intro w'
       go_simp
       with_reducible rfl
      rotate_left
      ·simp only [Act.put, List.setIfInBounds_toArray, List.set_cons_zero, List.set_cons_succ, i64_w, i32_w]
       rfl
      refine take_ (i := 11) (N := some 68) (v := ?_) (a' := ?_) #[true, true, true, true, true, true, true, true, true, true, true, true, false, false, false, false] rfl rfl (take_ofW HT_.out HW_.out (by kernel_rfl)) (fun _ _ _ h => h) (Or.inl ⟨by rfl, ?_⟩) hHeld ?_ ?_
      rotate_left
      ·rintro w' ⟨s0, s1⟩
       go_simp
       with_reducible rfl
      rotate_left
      ·simp only [Act.put, List.setIfInBounds_toArray, List.set_cons_zero, List.set_cons_succ, i64_w, i32_w]
       rfl
      refine pure_ (i := 12) (N := some 69) (v := ?_) (a' := ?_) #[true, true, true, true, true, true, true, true, true, true, true, true, true, false, false, false] rfl rfl (any_of HT_.out (by kernel_rfl)) (fun _ _ _ h => h) (Or.inl ⟨by rfl, ?_⟩) ?_ ?_
      rotate_left
      ·intro w'
       go_simp
       with_reducible rfl
      rotate_left
      ·simp only [Act.put, List.setIfInBounds_toArray, List.set_cons_zero, List.set_cons_succ, i64_w, i32_w]
       rfl
      refine last_ (i := 13) (N := none) #[true, true, true, true, true, true, true, true, true, true, true, true, true, true, false, false] rfl rfl (one_of HT_.out (by kernel_rfl)) (by decide) (fun K hK => ?_)
      (refine skip_ (w1 := ?_) (by rfl) rfl ?_ ?_; rotate_left; · (go_simp; rfl))
      refine hK.out _ _ ?_
      clear hK K
      try simp only [Act.put, List.setIfInBounds_toArray, List.set_cons_zero, List.set_cons_succ, i64_w, i32_w]
      refine pure_ (i := 14) (N := some 70) (v := ?_) (a' := ?_) #[true, true, true, true, true, true, true, true, true, true, true, true, true, true, true, false] rfl rfl (any_of HT_.out (by kernel_rfl)) (fun _ _ _ h => h) (Or.inl ⟨by rfl, ?_⟩) ?_ ?_
      rotate_left
      ·intro w'
       go_simp
       with_reducible rfl
      rotate_left
      ·simp only [Act.put, List.setIfInBounds_toArray, List.set_cons_zero, List.set_cons_succ, i64_w, i32_w]
       rfl
      have hsb : (W1.setCell ⟨gL, c, none⟩ (.string sp)).frozen? ⟨gL, p, none⟩ = false := by simpa using hfp
      obtain ⟨vb, hvb⟩ : ∃ v, (W1.setCell ⟨gL, c, none⟩ (.string sp)).cell? ⟨gL, p, none⟩ = some v := cell?_setCell_some (p := ⟨gL, c, none⟩) (x := .string sp) (q := ⟨gL, p, none⟩) hpd
      refine last_ (i := 15) (N := none) #[true, true, true, true, true, true, true, true, true, true, true, true, true, true, true, true] rfl rfl (one_of HT_.out (by kernel_rfl)) (by decide) (fun K hK => ?_)
      (refine skip_ (w1 := ?_) (by rfl) rfl ?_ ?_; rotate_left; · (go_simp; rfl))
      refine hK.out _ _ ?_
      clear hK K
      try simp only [Act.put, List.setIfInBounds_toArray, List.set_cons_zero, List.set_cons_succ, i64_w, i32_w]
      refine done_ (done_of HT_.out (by kernel_rfl)) ?_
      have HI2 : Aside0 (SI w ((W1.setCell ⟨gL, c, none⟩ (.string sp)).setCell ⟨gL, p, none⟩ (.string sc)) n gq gL cL gR cR (swapR c p q.1) q.2) := ⟨by rw [HSP.out, HSC.out]; exact HI1.out.swapL hlt hpn⟩
      clear hHeld hcd hpd hfc hfp hvb hsb
      generalize ((W1.setCell ⟨gL, c, none⟩ (.string sp)).setCell ⟨gL, p, none⟩ (.string sc)) = W2 at HI2 ⊢
      go_wp2
      obtain ⟨tp, htp⟩ : ∃ sp, sp = rowB n (toI q.2 p) := ⟨_, rfl⟩
      obtain ⟨tc, htc⟩ : ∃ sp, sp = rowB n (toI q.2 c) := ⟨_, rfl⟩
      have HTP := Aside0.mk htp
      have HTC := Aside0.mk htc
      have HId := HI2.out.drew
      have hpd := (HId.cellR hpn).1
      have hfp := (HId.cellR hpn).2
      have hcd := (HId.cellR hlt).1
      have hfc := (HId.cellR hlt).2
      rw [← htp] at hpd
      rw [← htc] at hcd
      clear htp htc
      refine start_ (n := 16) (S := fun w' => w'.cell? ⟨gR, c, none⟩ = some (.string tc) ∧ w'.cell? ⟨gR, p, none⟩ = some (.string tp)) (ds := [13, 15]) #[false, false, false, false, false, false, false, false, false, false, false, false, false, false, false, false] (by kernel_rfl) rfl rfl ⟨hcd, hpd⟩ (fun hHeld => ?_)
      refine with_tabW rg27_14_tab rg27_14_bits (fun HT_ HW_ => ?_)
      obtain ⟨W3, hW3⟩ : ∃ W1, W1 = W2.drew := ⟨_, rfl⟩
      rw [← hW3] at hHeld HId hcd hpd hfc hfp ⊢
      have HI3 := Aside0.mk HId
      clear hW3 HId
      refine pure_ (i := 0) (N := some 71) (v := ?_) (a' := ?_) #[true, false, false, false, false, false, false, false, false, false, false, false, false, false, false, false] rfl rfl (any_of HT_.out (by kernel_rfl)) (fun _ _ _ h => h) (Or.inl ⟨by rfl, ?_⟩) ?_ ?_
      rotate_left
      ·intro w'
       go_simp
       with_reducible rfl
      rotate_left
      ·simp only [Act.put, List.setIfInBounds_toArray, List.set_cons_zero, List.set_cons_succ, i64_w, i32_w]
       rfl
      refine pure_ (i := 1) (N := some 72) (v := ?_) (a' := ?_) #[true, true, false, false, false, false, false, false, false, false, false, false, false, false, false, false] rfl rfl (any_of HT_.out (by kernel_rfl)) (fun _ _ _ h => h) (Or.inl ⟨by rfl, ?_⟩) ?_ ?_
      rotate_left
      ·intro w'
       go_simp
       with_reducible rfl
      rotate_left
      ·simp only [Act.put, List.setIfInBounds_toArray, List.set_cons_zero, List.set_cons_succ, i64_w, i32_w]
       rfl
      refine pure_ (i := 2) (N := some 73) (v := ?_) (a' := ?_) #[true, true, true, false, false, false, false, false, false, false, false, false, false, false, false, false] rfl rfl (any_of HT_.out (by kernel_rfl)) (fun _ _ _ h => h) (Or.inl ⟨by rfl, ?_⟩) ?_ ?_
      rotate_left
      ·intro w'
       go_simp
       with_reducible rfl
      rotate_left
      ·simp only [Act.put, List.setIfInBounds_toArray, List.set_cons_zero, List.set_cons_succ, i64_w, i32_w]
       rfl
      refine pure_ (i := 3) (N := some 74) (v := ?_) (a' := ?_) #[true, true, true, true, false, false, false, false, false, false, false, false, false, false, false, false] rfl rfl (any_of HT_.out (by kernel_rfl)) (fun _ _ _ h => h) (Or.inl ⟨by rfl, ?_⟩) ?_ ?_
      rotate_left
      ·intro w'
       go_simp
       with_reducible rfl
      rotate_left
      ·simp only [Act.put, List.setIfInBounds_toArray, List.set_cons_zero, List.set_cons_succ, i64_w, i32_w]
       rfl
      refine pure_ (i := 4) (N := some 75) (v := ?_) (a' := ?_) #[true, true, true, true, true, false, false, false, false, false, false, false, false, false, false, false] rfl rfl (any_of HT_.out (by kernel_rfl)) (fun _ _ _ h => h) (Or.inl ⟨by rfl, ?_⟩) ?_ ?_
      rotate_left
      ·intro w'
       go_simp
       with_reducible rfl
      rotate_left
      ·simp only [Act.put, List.setIfInBounds_toArray, List.set_cons_zero, List.set_cons_succ, i64_w, i32_w]
       rfl
      refine pure_ (i := 5) (N := some 76) (v := ?_) (a' := ?_) #[true, true, true, true, true, true, false, false, false, false, false, false, false, false, false, false] rfl rfl (any_of HT_.out (by kernel_rfl)) (fun _ _ _ h => h) (Or.inl ⟨by rfl, ?_⟩) ?_ ?_
      rotate_left
      ·intro w'
       go_simp
       with_reducible rfl
      rotate_left
      ·simp only [Act.put, List.setIfInBounds_toArray, List.set_cons_zero, List.set_cons_succ, i64_w, i32_w]
       rfl
      refine pure_ (i := 6) (N := some 77) (v := ?_) (a' := ?_) #[true, true, true, true, true, true, true, false, false, false, false, false, false, false, false, false] rfl rfl (any_of HT_.out (by kernel_rfl)) (fun _ _ _ h => h) (Or.inl ⟨by rfl, ?_⟩) ?_ ?_
      rotate_left
      ·intro w'
       go_simp
       with_reducible rfl
      rotate_left
      ·simp only [Act.put, List.setIfInBounds_toArray, List.set_cons_zero, List.set_cons_succ, i64_w, i32_w]
       rfl
      refine take_ (i := 7) (N := some 78) (v := ?_) (a' := ?_) #[true, true, true, true, true, true, true, true, false, false, false, false, false, false, false, false] rfl rfl (take_ofW HT_.out HW_.out (by kernel_rfl)) (fun _ _ _ h => h) (Or.inl ⟨by rfl, ?_⟩) hHeld ?_ ?_
      rotate_left
      ·rintro w' ⟨s0, s1⟩
       go_simp
       with_reducible rfl
      rotate_left
      ·simp only [Act.put, List.setIfInBounds_toArray, List.set_cons_zero, List.set_cons_succ, i64_w, i32_w]
       rfl
      refine pure_ (i := 8) (N := some 79) (v := ?_) (a' := ?_) #[true, true, true, true, true, true, true, true, true, false, false, false, false, false, false, false] rfl rfl (any_of HT_.out (by kernel_rfl)) (fun _ _ _ h => h) (Or.inl ⟨by rfl, ?_⟩) ?_ ?_
      rotate_left
      ·intro w'
       go_simp
       with_reducible rfl
      rotate_left
      ·simp only [Act.put, List.setIfInBounds_toArray, List.set_cons_zero, List.set_cons_succ, i64_w, i32_w]
       rfl
      refine pure_ (i := 9) (N := some 80) (v := ?_) (a' := ?_) #[true, true, true, true, true, true, true, true, true, true, false, false, false, false, false, false] rfl rfl (any_of HT_.out (by kernel_rfl)) (fun _ _ _ h => h) (Or.inl ⟨by rfl, ?_⟩) ?_ ?_
      rotate_left
      ·intro w'
       go_simp
       with_reducible rfl
      rotate_left
      ·simp only [Act.put, List.setIfInBounds_toArray, List.set_cons_zero, List.set_cons_succ, i64_w, i32_w]
       rfl
      refine pure_ (i := 10) (N := some 81) (v := ?_) (a' := ?_) #[true, true, true, true, true, true, true, true, true, true, true, false, false, false, false, false] rfl rfl (any_of HT_.out (by kernel_rfl)) (fun _ _ _ h => h) (Or.inl ⟨by rfl, ?_⟩) ?_ ?_
      rotate_left
      ·intro w'
       go_simp
       with_reducible rfl
      rotate_left
      ·simp only [Act.put, List.setIfInBounds_toArray, List.set_cons_zero, List.set_cons_succ, i64_w, i32_w]
       rfl
      refine take_ (i := 11) (N := some 82) (v := ?_) (a' := ?_) #[true, true, true, true, true, true, true, true, true, true, true, true, false, false, false, false] rfl rfl (take_ofW HT_.out HW_.out (by kernel_rfl)) (fun _ _ _ h => h) (Or.inl ⟨by rfl, ?_⟩) hHeld ?_ ?_
      rotate_left
      ·rintro w' ⟨s0, s1⟩
       go_simp
       with_reducible rfl
      rotate_left
      ·simp only [Act.put, List.setIfInBounds_toArray, List.set_cons_zero, List.set_cons_succ, i64_w, i32_w]
       rfl
      refine pure_ (i := 12) (N := some 83) (v := ?_) (a' := ?_) #[true, true, true, true, true, true, true, true, true, true, true, true, true, false, false, false] rfl rfl (any_of HT_.out (by kernel_rfl)) (fun _ _ _ h => h) (Or.inl ⟨by rfl, ?_⟩) ?_ ?_
      rotate_left
      ·intro w'
       go_simp
       with_reducible rfl
      rotate_left
      ·simp only [Act.put, List.setIfInBounds_toArray, List.set_cons_zero, List.set_cons_succ, i64_w, i32_w]
       rfl
      refine last_ (i := 13) (N := none) #[true, true, true, true, true, true, true, true, true, true, true, true, true, true, false, false] rfl rfl (one_of HT_.out (by kernel_rfl)) (by decide) (fun K hK => ?_)
      (refine skip_ (w1 := ?_) (by rfl) rfl ?_ ?_; rotate_left; · (go_simp; rfl))
      refine hK.out _ _ ?_
      clear hK K
      try simp only [Act.put, List.setIfInBounds_toArray, List.set_cons_zero, List.set_cons_succ, i64_w, i32_w]
      refine pure_ (i := 14) (N := some 84) (v := ?_) (a' := ?_) #[true, true, true, true, true, true, true, true, true, true, true, true, true, true, true, false] rfl rfl (any_of HT_.out (by kernel_rfl)) (fun _ _ _ h => h) (Or.inl ⟨by rfl, ?_⟩) ?_ ?_
      rotate_left
      ·intro w'
       go_simp
       with_reducible rfl
      rotate_left
      ·simp only [Act.put, List.setIfInBounds_toArray, List.set_cons_zero, List.set_cons_succ, i64_w, i32_w]
       rfl
      have hsb : (W3.setCell ⟨gR, c, none⟩ (.string tp)).frozen? ⟨gR, p, none⟩ = false := by simpa using hfp
      obtain ⟨vb, hvb⟩ : ∃ v, (W3.setCell ⟨gR, c, none⟩ (.string tp)).cell? ⟨gR, p, none⟩ = some v := cell?_setCell_some (p := ⟨gR, c, none⟩) (x := .string tp) (q := ⟨gR, p, none⟩) hpd
      refine last_ (i := 15) (N := none) #[true, true, true, true, true, true, true, true, true, true, true, true, true, true, true, true] rfl rfl (one_of HT_.out (by kernel_rfl)) (by decide) (fun K hK => ?_)
      (refine skip_ (w1 := ?_) (by rfl) rfl ?_ ?_; rotate_left; · (go_simp; rfl))
      refine hK.out _ _ ?_
      clear hK K
      try simp only [Act.put, List.setIfInBounds_toArray, List.set_cons_zero, List.set_cons_succ, i64_w, i32_w]
      refine done_ (done_of HT_.out (by kernel_rfl)) ?_
      have HI4 : Aside0 (SI w ((W3.setCell ⟨gR, c, none⟩ (.string tp)).setCell ⟨gR, p, none⟩ (.string tc)) n gq gL cL gR cR (swapR c p q.1) (swapR c p q.2)) := ⟨by rw [HTP.out, HTC.out]; exact HI3.out.swapRR hlt hpn⟩
      clear hHeld hcd hpd hfc hfp hvb hsb
      generalize ((W3.setCell ⟨gR, c, none⟩ (.string tp)).setCell ⟨gR, p, none⟩ (.string tc)) = W4 at HI4 ⊢
      obtain ⟨b, hb⟩ : ∃ b, b = inv1 (swapR c p q.1 c c) := ⟨_, rfl⟩
      have hnz : swapR c p q.1 c c ≠ 0 := by simp only [swapR, if_true]; exact HNZ.out
      have HDV : Aside0 (divI 1 (((swapR c p q.1 c c : Nat) : Int)) = (b : Int)) := ⟨by rw [hb]; exact divI_inv hnz⟩
      have HBD := Aside0.mk hb
      have HBB : Aside0 (b < 256) := ⟨by rw [hb]; exact inv1_lt _⟩
      clear hb hnz
      obtain ⟨t1, ht1⟩ : ∃ s, s = rowB n (toI (swapR c p q.1) c) := ⟨_, rfl⟩
      obtain ⟨t2, ht2⟩ : ∃ s, s = rowB n (toI (swapR c p q.2) c) := ⟨_, rfl⟩
      have HT1 := Aside0.mk ht1
      have HT2 := Aside0.mk ht2
      have hsz1 : t1.size = n := by rw [ht1, rowB_size]
      have hx := row_at HI4.out.bA hlt ht1
      obtain ⟨xv, hxv⟩ : ∃ x : Nat, x = swapR c p q.1 c c := ⟨_, rfl⟩
      rw [← hxv] at hx HDV
      have HXV : Aside0 (Byte ((xv : Nat) : Int)) := ⟨by rw [hxv]; have := HI4.out.bA c c; unfold Byte; omega⟩
      have v5 : (c < t1.size) = True := eq_true (by omega)
      have v6 : decide (c < t1.size) = true := decide_eq_true (by omega)
      have v1 : ((c : Int) < (t1.size : Int)) = True := eq_true (by omega)
      have v2 : decide ((c : Int) < (t1.size : Int)) = true := decide_eq_true (by omega)
      have hcl := (HI4.out.cellL hlt).1
      rw [← ht1] at hcl
      clear ht1 ht2 hsz1 hxv
      go_upto_region 16 with (go_at_call 41; refine (rInv _ _ HXV.out).mono ?_; rintro e w' ⟨rfl, nd, rfl⟩; rw [HDV.out])
      have HI5 := Aside0.mk (HI4.out.drewN nd)
      generalize W4.drewN nd = W5 at HI5 ⊢
      have hcl5 := (HI5.out.cellL hlt).1
      rw [← HT1.out] at hcl5
      go_upto_region 17 with (go_at_call 42; rw [HT1.out]; (with_reducible refine (sc_calls HBB.out HI5.out.bA c hn2 _).mono ?_); rintro e w' ⟨rfl, hb⟩; have HI6 := Aside0.mk (HI5.out.below hb); have hce := (HI6.out.cellL hlt).1; have hcf := (HI6.out.cellL hlt).2; clear hb)
      have HI7 : Aside0 (SI w (w'.setCell ⟨gL, c, none⟩ (.string (rowB n (toI (scaleR c b (swapR c p q.1)) c)))) n gq gL cL gR cR (scaleR c b (swapR c p q.1)) (swapR c p q.2)) := ⟨HI6.out.setL hlt ((scale_op hlt HBB.out).by_ _ HI6.out.bA) (fun a j hne => by unfold scaleR; rw [if_neg hne]) rfl⟩
      clear hce hcf hcl5
      generalize (w'.setCell ⟨gL, c, none⟩ (.string (rowB n (toI (scaleR c b (swapR c p q.1)) c)))) = W6 at HI7 ⊢
      have hcr := (HI7.out.cellR hlt).1
      rw [← HT2.out] at hcr
      go_upto_region 18 with (go_at_call 42; rw [HT2.out]; (with_reducible refine (sc_calls HBB.out HI7.out.bB c hn2 _).mono ?_); rintro e w8 ⟨rfl, hb⟩; have HI8 := Aside0.mk (HI7.out.below hb); have hce := (HI8.out.cellR hlt).1; have hcf := (HI8.out.cellR hlt).2; clear hb)
      have HI9 : Aside0 (SI w (w8.setCell ⟨gR, c, none⟩ (.string (rowB n (toI (scaleR c b (swapR c p q.2)) c)))) n gq gL cL gR cR (scaleR c b (swapR c p q.1)) (scaleR c b (swapR c p q.2))) := ⟨HI8.out.setR hlt ((scale_op hlt HBB.out).by_ _ HI8.out.bB) (fun a j hne => by unfold scaleR; rw [if_neg hne]) rfl⟩
      clear hce hcf hcr
      generalize (w8.setCell ⟨gR, c, none⟩ (.string (rowB n (toI (scaleR c b (swapR c p q.2)) c)))) = W9 at HI9 ⊢
      obtain ⟨L2, hL2⟩ : ∃ L2, L2 = scaleR c b (swapR c p q.1) := ⟨_, rfl⟩
      obtain ⟨R2, hR2⟩ : ∃ R2, R2 = scaleR c b (swapR c p q.2) := ⟨_, rfl⟩
      have HI10 : Aside0 (SI w W9 n gq gL cL gR cR (elimK c (fun r => L2 r c) 0 L2) (elimK c (fun r => L2 r c) 0 R2)) := ⟨by rw [elimK_zero, elimK_zero, hL2, hR2]; exact HI9.out⟩
      have HL2 := Aside0.mk hL2
      have HR2 := Aside0.mk hR2
      have BL2 : Aside0 (By2 L2) := ⟨by rw [hL2]; exact HI9.out.bA⟩
      have BR2 : Aside0 (By2 R2) := ⟨by rw [hR2]; exact HI9.out.bB⟩
      clear hL2 hR2 HI9 HI8 HI7 HI6 HI5 HI4 HI3 HI2 HI1 hx v1 v2 v5 v6 hcl
      go_wp2
      go_loopw [11, 12] (fun v11 v12 wr => ∃ i : Nat, v11 = .int .i64 i ∧ i ≤ n ∧ Aside0 (SI w wr n gq gL cL gR cR (elimK c (fun r => L2 r c) i L2) (elimK c (fun r => L2 r c) i R2))) (fun v11 _ _ => n - (intOf v11).toNat)
      case atStart => exact ⟨0, rfl, Nat.zero_le _, HI10⟩
      case round =>
       obtain ⟨i, rfl, hi, HI11⟩ := hrel
       clear HI10
       by_cases hin : i < n
       ·have i1 : decide ((i : Int) < (n : Int)) = true := decide_eq_true (by omega)
        have i2 : decide (i < n) = true := decide_eq_true hin
        by_cases hic : i = c
        ·have j1 : ((i : Int) == (c : Int)) = true := by rw [hic]; simp
         have j2 : ((i : Int) != (c : Int)) = false := by rw [hic]; simp
         have j3 : (i == c) = true := by rw [hic]; simp
         have HI12 : Aside0 (SI w wr n gq gL cL gR cR (elimK c (fun r => L2 r c) (i + 1) L2) (elimK c (fun r => L2 r c) (i + 1) R2)) := ⟨by rw [elimK_skip (.inl hic), elimK_skip (.inl hic)]; exact HI11.out⟩
         clear hic
         go_wp2
         go_roundw
         case rel => exact ⟨i + 1, by go_num, hin, HI12⟩
         case measure => simp [intOf]; omega
        ·have j1 : ((i : Int) == (c : Int)) = false := beq_eq_false_iff_ne.2 (by omega)
         have j2 : ((i : Int) != (c : Int)) = true := bne_iff_ne.2 (by omega)
         have j3 : (i == c) = false := beq_eq_false_iff_ne.2 hic
         have HIC := Aside0.mk hic
         obtain ⟨si, hsi⟩ : ∃ s, s = rowB n (toI (elimK c (fun r => L2 r c) i L2) i) := ⟨_, rfl⟩
         obtain ⟨sk, hsk⟩ : ∃ s, s = rowB n (toI (elimK c (fun r => L2 r c) i L2) c) := ⟨_, rfl⟩
         have HSI := Aside0.mk hsi
         have HSK := Aside0.mk hsk
         have hszi : si.size = n := by rw [hsi, rowB_size]
         have hx := row_at HI11.out.bA hlt hsi
         rw [elimK_at] at hx
         obtain ⟨xi, hxi⟩ : ∃ x : Nat, x = L2 i c := ⟨_, rfl⟩
         rw [← hxi] at hx
         have HXI := Aside0.mk hxi
         have HXB : Aside0 (xi < 256) := ⟨by rw [hxi]; exact BL2.out i c⟩
         have v5 : (c < si.size) = True := eq_true (by omega)
         have v6 : decide (c < si.size) = true := decide_eq_true (by omega)
         have v1 : ((c : Int) < (si.size : Int)) = True := eq_true (by omega)
         have v2 : decide ((c : Int) < (si.size : Int)) = true := decide_eq_true (by omega)
         have hcl := (HI11.out.cellL hin).1
         rw [← hsi] at hcl
         clear hsi hsk hszi hxi hic
         go_wp2
         (try clear hcl)
         (try clear hx)
         have HId := HI11.out.drew
         have hid := (HId.cellL hin).1
         have hfi := (HId.cellL hin).2
         have hkd := (HId.cellL hlt).1
         rw [← HSI.out] at hid
         rw [← HSK.out] at hkd
         refine start_ (n := 14) (S := fun w' => w'.cell? ⟨gL, i, none⟩ = some (.string si) ∧ w'.cell? ⟨gL, c, none⟩ = some (.string sk)) (ds := [13]) #[false, false, false, false, false, false, false, false, false, false, false, false, false, false] (by kernel_rfl) rfl rfl ⟨hid, hkd⟩ (fun hHeld => ?_)
         refine with_tabW rg27_23_tab rg27_23_bits (fun HT_ HW_ => ?_)
         obtain ⟨V1, hV1⟩ : ∃ W1, W1 = wr.drew := ⟨_, rfl⟩
         rw [← hV1] at hHeld HId hid hkd hfi ⊢
         have HI12 := Aside0.mk HId
         clear hV1 HId
         refine pure_ (i := 0) (N := some 127) (v := ?_) (a' := ?_) #[true, false, false, false, false, false, false, false, false, false, false, false, false, false] rfl rfl (any_of HT_.out (by kernel_rfl)) (fun _ _ _ h => h) (Or.inl ⟨by rfl, ?_⟩) ?_ ?_
         rotate_left
         ·intro w'
          go_simp
          with_reducible rfl
         rotate_left
         ·simp only [Act.put, List.setIfInBounds_toArray, List.set_cons_zero, List.set_cons_succ, i64_w, i32_w]
          rfl
         refine pure_ (i := 1) (N := some 128) (v := ?_) (a' := ?_) #[true, true, false, false, false, false, false, false, false, false, false, false, false, false] rfl rfl (any_of HT_.out (by kernel_rfl)) (fun _ _ _ h => h) (Or.inl ⟨by rfl, ?_⟩) ?_ ?_
         rotate_left
         ·intro w'
          go_simp
          with_reducible rfl
         rotate_left
         ·simp only [Act.put, List.setIfInBounds_toArray, List.set_cons_zero, List.set_cons_succ, i64_w, i32_w]
          rfl
         refine pure_ (i := 2) (N := some 129) (v := ?_) (a' := ?_) #[true, true, true, false, false, false, false, false, false, false, false, false, false, false] rfl rfl (any_of HT_.out (by kernel_rfl)) (fun _ _ _ h => h) (Or.inl ⟨by rfl, ?_⟩) ?_ ?_
         rotate_left
         ·intro w'
          go_simp
          with_reducible rfl
         rotate_left
         ·simp only [Act.put, List.setIfInBounds_toArray, List.set_cons_zero, List.set_cons_succ, i64_w, i32_w]
          rfl
         refine pure_ (i := 3) (N := some 130) (v := ?_) (a' := ?_) #[true, true, true, true, false, false, false, false, false, false, false, false, false, false] rfl rfl (any_of HT_.out (by kernel_rfl)) (fun _ _ _ h => h) (Or.inl ⟨by rfl, ?_⟩) ?_ ?_
         rotate_left
         ·intro w'
          go_simp
          with_reducible rfl
         rotate_left
         ·simp only [Act.put, List.setIfInBounds_toArray, List.set_cons_zero, List.set_cons_succ, i64_w, i32_w]
          rfl
         refine pure_ (i := 4) (N := some 131) (v := ?_) (a' := ?_) #[true, true, true, true, true, false, false, false, false, false, false, false, false, false] rfl rfl (any_of HT_.out (by kernel_rfl)) (fun _ _ _ h => h) (Or.inl ⟨by rfl, ?_⟩) ?_ ?_
         rotate_left
         ·intro w'
          go_simp
          with_reducible rfl
         rotate_left
         ·simp only [Act.put, List.setIfInBounds_toArray, List.set_cons_zero, List.set_cons_succ, i64_w, i32_w]
          rfl
         refine take_ (i := 5) (N := some 132) (v := ?_) (a' := ?_) #[true, true, true, true, true, true, false, false, false, false, false, false, false, false] rfl rfl (take_ofW HT_.out HW_.out (by kernel_rfl)) (fun _ _ _ h => h) (Or.inl ⟨by rfl, ?_⟩) hHeld ?_ ?_
         rotate_left
         ·rintro w' ⟨s0, s1⟩
          go_simp
          with_reducible rfl
         rotate_left
         ·simp only [Act.put, List.setIfInBounds_toArray, List.set_cons_zero, List.set_cons_succ, i64_w, i32_w]
          rfl
         refine pure_ (i := 6) (N := some 133) (v := ?_) (a' := ?_) #[true, true, true, true, true, true, true, false, false, false, false, false, false, false] rfl rfl (any_of HT_.out (by kernel_rfl)) (fun _ _ _ h => h) (Or.inl ⟨by rfl, ?_⟩) ?_ ?_
         rotate_left
         ·intro w'
          go_simp
          with_reducible rfl
         rotate_left
         ·simp only [Act.put, List.setIfInBounds_toArray, List.set_cons_zero, List.set_cons_succ, i64_w, i32_w]
          rfl
         refine pure_ (i := 7) (N := some 134) (v := ?_) (a' := ?_) #[true, true, true, true, true, true, true, true, false, false, false, false, false, false] rfl rfl (any_of HT_.out (by kernel_rfl)) (fun _ _ _ h => h) (Or.inl ⟨by rfl, ?_⟩) ?_ ?_
         rotate_left
         ·intro w'
          go_simp
          with_reducible rfl
         rotate_left
         ·simp only [Act.put, List.setIfInBounds_toArray, List.set_cons_zero, List.set_cons_succ, i64_w, i32_w]
          rfl
         refine pure_ (i := 8) (N := some 135) (v := ?_) (a' := ?_) #[true, true, true, true, true, true, true, true, true, false, false, false, false, false] rfl rfl (any_of HT_.out (by kernel_rfl)) (fun _ _ _ h => h) (Or.inl ⟨by rfl, ?_⟩) ?_ ?_
         rotate_left
         ·intro w'
          go_simp
          with_reducible rfl
         rotate_left
         ·simp only [Act.put, List.setIfInBounds_toArray, List.set_cons_zero, List.set_cons_succ, i64_w, i32_w]
          rfl
         refine pure_ (i := 9) (N := some 136) (v := ?_) (a' := ?_) #[true, true, true, true, true, true, true, true, true, true, false, false, false, false] rfl rfl (any_of HT_.out (by kernel_rfl)) (fun _ _ _ h => h) (Or.inl ⟨by rfl, ?_⟩) ?_ ?_
         rotate_left
         ·intro w'
          go_simp
          with_reducible rfl
         rotate_left
         ·simp only [Act.put, List.setIfInBounds_toArray, List.set_cons_zero, List.set_cons_succ, i64_w, i32_w]
          rfl
         refine take_ (i := 10) (N := some 137) (v := ?_) (a' := ?_) #[true, true, true, true, true, true, true, true, true, true, true, false, false, false] rfl rfl (take_ofW HT_.out HW_.out (by kernel_rfl)) (fun _ _ _ h => h) (Or.inl ⟨by rfl, ?_⟩) hHeld ?_ ?_
         rotate_left
         ·rintro w' ⟨s0, s1⟩
          go_simp
          with_reducible rfl
         rotate_left
         ·simp only [Act.put, List.setIfInBounds_toArray, List.set_cons_zero, List.set_cons_succ, i64_w, i32_w]
          rfl
         refine one_ (i := 11) (N := some 138) #[true, true, true, true, true, true, true, true, true, true, true, true, false, false] rfl rfl (one_of HT_.out (by kernel_rfl)) (by decide) (fun K hK => ?_)
         (refine goes_ Try.func43 (by kernel_rfl) rfl #[.string si, .int .u8 (xi : Int), .string sk] (by rfl) rfl rfl (by (try simp only [List.map_toArray, List.map_cons, List.map_nil]); first | done | rfl) ?_; refine (pl_calls' HXB.out HI12.out.bA i c hn2 HSI.out HSK.out _).mono ?_; rintro e V2 ⟨rfl, hb⟩; refine ⟨_, rfl, ?_⟩; have HI13 := Aside0.mk (HI12.out.below hb); clear hb hid hkd hfi; have hid := (HI13.out.cellL hin).1; have hfi := (HI13.out.cellL hin).2; have hkd := (HI13.out.cellL hlt).1; rw [← HSI.out] at hid; rw [← HSK.out] at hkd)
         refine hK.out _ _ ⟨hid, hkd⟩ (fun hHeld => ?_)
         clear hK K
         try simp only [Act.put, List.setIfInBounds_toArray, List.set_cons_zero, List.set_cons_succ, i64_w, i32_w]
         refine pure_ (i := 12) (N := some 139) (v := ?_) (a' := ?_) #[true, true, true, true, true, true, true, true, true, true, true, true, true, false] rfl rfl (any_of HT_.out (by kernel_rfl)) (fun _ _ _ h => h) (Or.inl ⟨by rfl, ?_⟩) ?_ ?_
         rotate_left
         ·intro w'
          go_simp
          with_reducible rfl
         rotate_left
         ·simp only [Act.put, List.setIfInBounds_toArray, List.set_cons_zero, List.set_cons_succ, i64_w, i32_w]
          rfl
         refine last_ (i := 13) (N := none) #[true, true, true, true, true, true, true, true, true, true, true, true, true, true] rfl rfl (one_of HT_.out (by kernel_rfl)) (by decide) (fun K hK => ?_)
         (refine skip_ (w1 := ?_) (by rfl) rfl ?_ ?_; rotate_left; · (go_simp; rfl))
         refine hK.out _ _ ?_
         clear hK K
         try simp only [Act.put, List.setIfInBounds_toArray, List.set_cons_zero, List.set_cons_succ, i64_w, i32_w]
         refine done_ (done_of HT_.out (by kernel_rfl)) ?_
         have HI14 : Aside0 (SI w (V2.setCell ⟨gL, i, none⟩ (.string (rowB n (fun j => ((elimK c (fun r => L2 r c) i L2 i j ^^^ mulN xi (elimK c (fun r => L2 r c) i L2 c j) : Nat) : Int))))) n gq gL cL gR cR (elimK c (fun r => L2 r c) (i + 1) L2) (elimK c (fun r => L2 r c) i R2)) := ⟨HI13.out.setL hin (elimK_by BL2.out (i + 1)) (fun a j hne => elimK_else hne) (rowB_congr fun j _ => by rw [HXI.out]; unfold toI; rw [elimK_next HIC.out])⟩
         clear hHeld hid hkd hfi
         generalize (V2.setCell ⟨gL, i, none⟩ (.string (rowB n (fun j => ((elimK c (fun r => L2 r c) i L2 i j ^^^ mulN xi (elimK c (fun r => L2 r c) i L2 c j) : Nat) : Int))))) = V3 at HI14 ⊢
         go_wp2
         obtain ⟨ti, hti⟩ : ∃ s, s = rowB n (toI (elimK c (fun r => L2 r c) i R2) i) := ⟨_, rfl⟩
         obtain ⟨tk, htk⟩ : ∃ s, s = rowB n (toI (elimK c (fun r => L2 r c) i R2) c) := ⟨_, rfl⟩
         have HTI := Aside0.mk hti
         have HTK := Aside0.mk htk
         have HId := HI14.out.drew
         have hid := (HId.cellR hin).1
         have hfi := (HId.cellR hin).2
         have hkd := (HId.cellR hlt).1
         rw [← hti] at hid
         rw [← htk] at hkd
         clear hti htk
         refine start_ (n := 14) (S := fun w' => w'.cell? ⟨gR, i, none⟩ = some (.string ti) ∧ w'.cell? ⟨gR, c, none⟩ = some (.string tk)) (ds := [13]) #[false, false, false, false, false, false, false, false, false, false, false, false, false, false] (by kernel_rfl) rfl rfl ⟨hid, hkd⟩ (fun hHeld => ?_)
         refine with_tabW rg27_24_tab rg27_24_bits (fun HT_ HW_ => ?_)
         obtain ⟨V4, hV4⟩ : ∃ W1, W1 = V3.drew := ⟨_, rfl⟩
         rw [← hV4] at hHeld HId hid hkd hfi ⊢
         have HI15 := Aside0.mk HId
         clear hV4 HId
         refine pure_ (i := 0) (N := some 140) (v := ?_) (a' := ?_) #[true, false, false, false, false, false, false, false, false, false, false, false, false, false] rfl rfl (any_of HT_.out (by kernel_rfl)) (fun _ _ _ h => h) (Or.inl ⟨by rfl, ?_⟩) ?_ ?_
         rotate_left
         ·intro w'
          go_simp
          with_reducible rfl
         rotate_left
         ·simp only [Act.put, List.setIfInBounds_toArray, List.set_cons_zero, List.set_cons_succ, i64_w, i32_w]
          rfl
         refine pure_ (i := 1) (N := some 141) (v := ?_) (a' := ?_) #[true, true, false, false, false, false, false, false, false, false, false, false, false, false] rfl rfl (any_of HT_.out (by kernel_rfl)) (fun _ _ _ h => h) (Or.inl ⟨by rfl, ?_⟩) ?_ ?_
         rotate_left
         ·intro w'
          go_simp
          with_reducible rfl
         rotate_left
         ·simp only [Act.put, List.setIfInBounds_toArray, List.set_cons_zero, List.set_cons_succ, i64_w, i32_w]
          rfl
         refine pure_ (i := 2) (N := some 142) (v := ?_) (a' := ?_) #[true, true, true, false, false, false, false, false, false, false, false, false, false, false] rfl rfl (any_of HT_.out (by kernel_rfl)) (fun _ _ _ h => h) (Or.inl ⟨by rfl, ?_⟩) ?_ ?_
         rotate_left
         ·intro w'
          go_simp
          with_reducible rfl
         rotate_left
         ·simp only [Act.put, List.setIfInBounds_toArray, List.set_cons_zero, List.set_cons_succ, i64_w, i32_w]
          rfl
         refine pure_ (i := 3) (N := some 143) (v := ?_) (a' := ?_) #[true, true, true, true, false, false, false, false, false, false, false, false, false, false] rfl rfl (any_of HT_.out (by kernel_rfl)) (fun _ _ _ h => h) (Or.inl ⟨by rfl, ?_⟩) ?_ ?_
         rotate_left
         ·intro w'
          go_simp
          with_reducible rfl
         rotate_left
         ·simp only [Act.put, List.setIfInBounds_toArray, List.set_cons_zero, List.set_cons_succ, i64_w, i32_w]
          rfl
         refine pure_ (i := 4) (N := some 144) (v := ?_) (a' := ?_) #[true, true, true, true, true, false, false, false, false, false, false, false, false, false] rfl rfl (any_of HT_.out (by kernel_rfl)) (fun _ _ _ h => h) (Or.inl ⟨by rfl, ?_⟩) ?_ ?_
         rotate_left
         ·intro w'
          go_simp
          with_reducible rfl
         rotate_left
         ·simp only [Act.put, List.setIfInBounds_toArray, List.set_cons_zero, List.set_cons_succ, i64_w, i32_w]
          rfl
         refine take_ (i := 5) (N := some 145) (v := ?_) (a' := ?_) #[true, true, true, true, true, true, false, false, false, false, false, false, false, false] rfl rfl (take_ofW HT_.out HW_.out (by kernel_rfl)) (fun _ _ _ h => h) (Or.inl ⟨by rfl, ?_⟩) hHeld ?_ ?_
         rotate_left
         ·rintro w' ⟨s0, s1⟩
          go_simp
          with_reducible rfl
         rotate_left
         ·simp only [Act.put, List.setIfInBounds_toArray, List.set_cons_zero, List.set_cons_succ, i64_w, i32_w]
          rfl
         refine pure_ (i := 6) (N := some 146) (v := ?_) (a' := ?_) #[true, true, true, true, true, true, true, false, false, false, false, false, false, false] rfl rfl (any_of HT_.out (by kernel_rfl)) (fun _ _ _ h => h) (Or.inl ⟨by rfl, ?_⟩) ?_ ?_
         rotate_left
         ·intro w'
          go_simp
          with_reducible rfl
         rotate_left
         ·simp only [Act.put, List.setIfInBounds_toArray, List.set_cons_zero, List.set_cons_succ, i64_w, i32_w]
          rfl
         refine pure_ (i := 7) (N := some 147) (v := ?_) (a' := ?_) #[true, true, true, true, true, true, true, true, false, false, false, false, false, false] rfl rfl (any_of HT_.out (by kernel_rfl)) (fun _ _ _ h => h) (Or.inl ⟨by rfl, ?_⟩) ?_ ?_
         rotate_left
         ·intro w'
          go_simp
          with_reducible rfl
         rotate_left
         ·simp only [Act.put, List.setIfInBounds_toArray, List.set_cons_zero, List.set_cons_succ, i64_w, i32_w]
          rfl
         refine pure_ (i := 8) (N := some 148) (v := ?_) (a' := ?_) #[true, true, true, true, true, true, true, true, true, false, false, false, false, false] rfl rfl (any_of HT_.out (by kernel_rfl)) (fun _ _ _ h => h) (Or.inl ⟨by rfl, ?_⟩) ?_ ?_
         rotate_left
         ·intro w'
          go_simp
          with_reducible rfl
         rotate_left
         ·simp only [Act.put, List.setIfInBounds_toArray, List.set_cons_zero, List.set_cons_succ, i64_w, i32_w]
          rfl
         refine pure_ (i := 9) (N := some 149) (v := ?_) (a' := ?_) #[true, true, true, true, true, true, true, true, true, true, false, false, false, false] rfl rfl (any_of HT_.out (by kernel_rfl)) (fun _ _ _ h => h) (Or.inl ⟨by rfl, ?_⟩) ?_ ?_
         rotate_left
         ·intro w'
          go_simp
          with_reducible rfl
         rotate_left
         ·simp only [Act.put, List.setIfInBounds_toArray, List.set_cons_zero, List.set_cons_succ, i64_w, i32_w]
          rfl
         refine take_ (i := 10) (N := some 150) (v := ?_) (a' := ?_) #[true, true, true, true, true, true, true, true, true, true, true, false, false, false] rfl rfl (take_ofW HT_.out HW_.out (by kernel_rfl)) (fun _ _ _ h => h) (Or.inl ⟨by rfl, ?_⟩) hHeld ?_ ?_
         rotate_left
         ·rintro w' ⟨s0, s1⟩
          go_simp
          with_reducible rfl
         rotate_left
         ·simp only [Act.put, List.setIfInBounds_toArray, List.set_cons_zero, List.set_cons_succ, i64_w, i32_w]
          rfl
         refine one_ (i := 11) (N := some 151) #[true, true, true, true, true, true, true, true, true, true, true, true, false, false] rfl rfl (one_of HT_.out (by kernel_rfl)) (by decide) (fun K hK => ?_)
         (refine goes_ Try.func43 (by kernel_rfl) rfl #[.string ti, .int .u8 (xi : Int), .string tk] (by rfl) rfl rfl (by (try simp only [List.map_toArray, List.map_cons, List.map_nil]); first | done | rfl) ?_; refine (pl_calls' HXB.out HI15.out.bB i c hn2 HTI.out HTK.out _).mono ?_; rintro e V5 ⟨rfl, hb⟩; refine ⟨_, rfl, ?_⟩; have HI16 := Aside0.mk (HI15.out.below hb); clear hb hid hkd hfi; have hid := (HI16.out.cellR hin).1; have hfi := (HI16.out.cellR hin).2; have hkd := (HI16.out.cellR hlt).1; rw [← HTI.out] at hid; rw [← HTK.out] at hkd)
         refine hK.out _ _ ⟨hid, hkd⟩ (fun hHeld => ?_)
         clear hK K
         try simp only [Act.put, List.setIfInBounds_toArray, List.set_cons_zero, List.set_cons_succ, i64_w, i32_w]
         refine pure_ (i := 12) (N := some 152) (v := ?_) (a' := ?_) #[true, true, true, true, true, true, true, true, true, true, true, true, true, false] rfl rfl (any_of HT_.out (by kernel_rfl)) (fun _ _ _ h => h) (Or.inl ⟨by rfl, ?_⟩) ?_ ?_
         rotate_left
         ·intro w'
          go_simp
          with_reducible rfl
         rotate_left
         ·simp only [Act.put, List.setIfInBounds_toArray, List.set_cons_zero, List.set_cons_succ, i64_w, i32_w]
          rfl
         refine last_ (i := 13) (N := none) #[true, true, true, true, true, true, true, true, true, true, true, true, true, true] rfl rfl (one_of HT_.out (by kernel_rfl)) (by decide) (fun K hK => ?_)
         (refine skip_ (w1 := ?_) (by rfl) rfl ?_ ?_; rotate_left; · (go_simp; rfl))
         refine hK.out _ _ ?_
         clear hK K
         try simp only [Act.put, List.setIfInBounds_toArray, List.set_cons_zero, List.set_cons_succ, i64_w, i32_w]
         refine done_ (done_of HT_.out (by kernel_rfl)) ?_
         have HI17 : Aside0 (SI w (V5.setCell ⟨gR, i, none⟩ (.string (rowB n (fun j => ((elimK c (fun r => L2 r c) i R2 i j ^^^ mulN xi (elimK c (fun r => L2 r c) i R2 c j) : Nat) : Int))))) n gq gL cL gR cR (elimK c (fun r => L2 r c) (i + 1) L2) (elimK c (fun r => L2 r c) (i + 1) R2)) := ⟨HI16.out.setR hin (elimK_by BR2.out (i + 1)) (fun a j hne => elimK_else hne) (rowB_congr fun j _ => by rw [HXI.out]; unfold toI; rw [elimK_next HIC.out])⟩
         clear hHeld hid hkd hfi
         generalize (V5.setCell ⟨gR, i, none⟩ (.string (rowB n (fun j => ((elimK c (fun r => L2 r c) i R2 i j ^^^ mulN xi (elimK c (fun r => L2 r c) i R2 c j) : Nat) : Int))))) = V6 at HI17 ⊢
         go_wp2
         go_roundw
         case rel => exact ⟨i + 1, by go_num, hin, HI17⟩
         case measure => simp [intOf]; omega
       ·obtain rfl : i = n := by omega
        have HEND : Aside0 (gj i (entN i s) (c + 1) = some (elimR c (fun r => L2 r c) L2, elimR c (fun r => L2 r c) R2) ∧ SI w wr i gq gL cL gR cR (elimR c (fun r => L2 r c) L2) (elimR c (fun r => L2 r c) R2)) := ⟨by
         refine ⟨?_, HI11.out.congr ((elim_op hlt (fun r => BL2.out r c)).by_ _ BL2.out) ((elim_op hlt (fun r => BL2.out r c)).by_ _ BR2.out) (fun r j hr _ => by unfold elimK; rw [if_pos hr]) (fun r j hr _ => by unfold elimK; rw [if_pos hr])⟩
         have e1 : L2 = stepL c p q.1 := by rw [HL2.out, HBD.out]; rfl
         have e2 : R2 = stepR c p q.1 q.2 := by rw [HR2.out, HBD.out]; rfl
         rw [gj, HJ.out, Option.bind_some, gstep, HPV.out, if_pos hpn, e1, e2]⟩
        clear HI11
        go_wp2
        go_roundw
        case rel => exact ⟨c + 1, _, by go_num, hlt, ⟨HEND.out.1⟩, ⟨HEND.out.2⟩⟩
        case measure => simp [intOf]; omega
    ·obtain rfl : p = n := by omega
     have HNO : Aside0 (errM 20 = R) := ⟨by
      have hpv : piv q.1 c (p - c) c = p := (piv_uniq hp1 (by omega) HZ.out (fun h => absurd h (by omega))).symm
      have hnone : gj p (entN p s) (c + 1) = none := by rw [gj, HJ.out, Option.bind_some, gstep, hpv, if_neg (by omega)]
      have := gj_stay hnone (p - (c + 1))
      rw [show c + 1 + (p - (c + 1)) = p by omega] at this
      have hr := HR.out
      rw [this] at hr
      exact hr⟩
     have d3 : decide ((p : Int) < (p : Int)) = false := decide_eq_false (by omega)
     have q0 : wo.cell? ⟨gq, 0, none⟩ = some (.int .i64 0) := (blk_cell HI.out.q 0).trans rfl
     have q1 : wo.cell? ⟨gq, 1, none⟩ = some (.int .i64 0) := (blk_cell HI.out.q 1).trans rfl
     have q2 : wo.cell? ⟨gq, 2, none⟩ = some (.string ⟨#[]⟩) := (blk_cell HI.out.q 2).trans rfl
     have z0 := blk_frozen HI.out.q 0
     have z1 := blk_frozen HI.out.q 1
     have z2 := blk_frozen HI.out.q 2
     go_wp2
     exact mr_end 0 0 ⟨#[]⟩ 20 rfl rfl rfl HI.out.q (by kernel_rfl) ⟨by rw [← HNO.out]; rfl, below_set (below_set (below_set HI.out.bel HQ.out) HQ.out) HQ.out⟩
  ·obtain rfl : c = n := by omega
   have HE : Aside0 (((c : Int), (c : Int), cellsOf c c (toI q.2), (0 : Int)) = R) := ⟨by
    have hr := HR.out
    rw [HJ.out] at hr
    exact hr⟩
   go_wp2
   go_loop [13, 14] (fun v13 v14 => ∃ i : Nat, v14 = .int .i64 i ∧ i ≤ c ∧ v13 = .string (cellsOf i c (toI q.2))) (fun _ v14 => c - (intOf v14).toNat)
   case atStart => exact ⟨0, rfl, Nat.zero_le _, by rw [cells_zero]⟩
   case round =>
    obtain ⟨i, rfl, hi, rfl⟩ := hrel
    by_cases hin : i < c
    ·have hcl := (HI.out.cellR hin).1
     have HCS := Aside0.mk (cells_suc (show 0 < c by omega) i (toI q.2))
     have h0 : i * c ≤ 255 * 255 := Nat.mul_le_mul (by omega) hn2
     have i1 : decide ((i : Int) < (c : Int)) = true := decide_eq_true (by omega)
     have i2 : decide (i < c) = true := decide_eq_true hin
     obtain ⟨o, ho⟩ : ∃ o, o = cellsOf i c (toI q.2) := ⟨_, rfl⟩
     obtain ⟨t, ht⟩ : ∃ t, t = rowB c (toI q.2 i) := ⟨_, rfl⟩
     have hs1 : o.size = i * c := by rw [ho, cellsOf_size]
     have hs2 : t.size = c := by rw [ht, rowB_size]
     have e1 : decide (o.size + t.size ≤ 9223372036854775807) = true := decide_eq_true (by omega)
     have e2 : (9223372036854775807 < o.size + t.size) = False := eq_false (by omega)
     have HO := Aside0.mk ho
     have HT := Aside0.mk ht
     rw [← ht] at hcl
     rw [← ho]
     clear ho ht hs1 hs2 h0
     go_wp2
     go_round
     case rel => exact ⟨i + 1, by go_num, hin, by rw [HCS.out, HO.out, HT.out]⟩
     case measure => simp [intOf]; omega
    ·obtain rfl : i = c := by omega
     have d3 : decide ((i : Int) < (i : Int)) = false := decide_eq_false (by omega)
     have q0 : wo.cell? ⟨gq, 0, none⟩ = some (.int .i64 0) := (blk_cell HI.out.q 0).trans rfl
     have q1 : wo.cell? ⟨gq, 1, none⟩ = some (.int .i64 0) := (blk_cell HI.out.q 1).trans rfl
     have q2 : wo.cell? ⟨gq, 2, none⟩ = some (.string ⟨#[]⟩) := (blk_cell HI.out.q 2).trans rfl
     have z0 := blk_frozen HI.out.q 0
     have z1 := blk_frozen HI.out.q 1
     have z2 := blk_frozen HI.out.q 2
     go_wp2
     exact mr_end i i (cellsOf i i (toI q.2)) 0 rfl rfl rfl HI.out.q (by kernel_rfl) ⟨by rw [← HE.out]; rfl, below_set (below_set (below_set HI.out.bel HQ.out) HQ.out) HQ.out⟩
end Go.Proofs.Ytoghhpkmficnmaa.Al

/- corncribref02.Inverse in the printer's form. -/
namespace Go.Proofs.Ytoghhpkmficnmaa.Al
open Go.RowKit Go.Proofs.Ytoghhpkmficnmaa.GfRef Go.Proofs.Ytoghhpkmficnmaa.Base Go.Proofs.Ytoghhpkmficnmaa.Grid Go.Proofs.YtoghhpkmficnmaaW.PrintWords
set_option linter.unusedVariables false
def corncribref02_Inverse.f (a0_0 a0_1 : Int) (a0_2 : ByteArray) : Option (Int × Int × ByteArray × Int) := some (invV a0_0 a0_1 a0_2)
theorem corncribref02_Inverse.calls (a0_0 : Int) (a0_1 : Int) (a0_2 : ByteArray) (r1 r2 : Int) (r3 : ByteArray) (r4 : Int) (w : World) (h : corncribref02_Inverse.f a0_0 a0_1 a0_2 = some (r1, r2, r3, r4)) :
  Calls Try.prog 27 #[.agg #[.int .i64 a0_0, .int .i64 a0_1, .string a0_2]] w fun e w' => e = .returned (.tuple #[.agg #[.int .i64 r1, .int .i64 r2, .string r3], .int .i64 r4]) ∧ Below w.heap.size w w' := by
 have h' := Option.some.inj h
 clear h
 by_cases hc : okM a0_0 a0_1 a0_2 ∧ a0_0 = a0_1
 ·obtain ⟨h1, rfl⟩ := hc
  obtain ⟨n, rfl⟩ := Int.eq_ofNat_of_zero_le (show 0 ≤ a0_0 by have := h1.1; omega)
  exact rinv_good n a0_2 w h1 (r1, r2, r3, r4) h'
 ·unfold invV at h'
  rw [if_neg hc] at h'
  injection h' with e1 h'
  injection h' with e2 h'
  injection h' with e3 e4
  subst e1 e2 e3 e4
  exact rinv_bad a0_0 a0_1 a0_2 w hc
end Go.Proofs.Ytoghhpkmficnmaa.Al
