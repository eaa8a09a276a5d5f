/- MatrixAny's plain statement: any k unlike rows of a generator have an inverse. -/
import Derived.Test.YtoghhpkmficnmaaPac
import Derived.Test.YtoghhpkmficnmaaFcorncriblaw02MatrixAny
namespace Go.Proofs.Ytoghhpkmficnmaa.Al
open Go.RowKit Go.Proofs.Ytoghhpkmficnmaa.GfMath Go.Proofs.Ytoghhpkmficnmaa.GfRef Go.Proofs.Ytoghhpkmficnmaa.Base Go.Proofs.Ytoghhpkmficnmaa.Bytes Go.Proofs.Ytoghhpkmficnmaa.Grid Go.Proofs.YtoghhpkmficnmaaW.PrintWords Go.Proofs.YtoghhpkmficnmaaW.PrintMore
set_option linter.unusedVariables false
/-- A generator's entry, as a number. -/
def genN (K r j : Nat) : Nat := if r < K then (if r = j then 1 else 0) else inv1 (r ^^^ j)
theorem xor_nz {r j : Nat} (h : r ≠ j) : r ^^^ j ≠ 0 := xor_ne h
theorem genI_N {K r j : Nat} (hj : j < K) : (genI K r j).toNat = genN K r j := by
  unfold genI genN
  split
  · unfold ixI; split <;> rfl
  · rw [divI_inv (xor_nz (by omega))]; rfl
theorem xs_ls (n : Nat) (f : Nat → Nat) : xs n f = ls (List.range n) f := by
  induction n with
  | zero => rfl
  | succ n ih =>
    have app : ∀ (l : List Nat) (y : Nat), ls (l ++ [y]) f = ls l f ^^^ f y := fun l y => by
      induction l with
      | nil => show f y ^^^ 0 = 0 ^^^ f y; rw [Nat.xor_zero, Nat.zero_xor]
      | cons z l ih => rw [List.cons_append, ls, ls, ih, Nat.xor_assoc]
    rw [List.range_succ, app, xs, ih]
theorem ls_filter (l : List Nat) (p : Nat → Bool) (f : Nat → Nat) (h : ∀ y, y ∈ l → p y = false → f y = 0) : ls l f = ls (l.filter p) f := by
  induction l with
  | nil => rfl
  | cons y l ih =>
    have ih' := ih fun z hz => h z (List.mem_cons_of_mem _ hz)
    rw [List.filter_cons]
    split
    · rw [ls, ls, ih']
    · rename_i hp
      rw [ls, h y List.mem_cons_self (by simpa using hp), Nat.zero_xor, ih']
theorem len_parts {α : Type} (p : α → Bool) (l : List α) : (l.filter p).length + (l.filter fun y => !p y).length = l.length := by
  induction l with
  | nil => rfl
  | cons y l ih =>
    rw [List.filter_cons, List.filter_cons]
    cases p y <;> simp <;> omega
/-- Unlike rows of a generator, as many as it has columns, have nothing in their kernel. -/
theorem gen_free {K M : Nat} (hK : K + M ≤ 256) {L : List Nat} (hL : L.length = K) (hnd : L.Nodup) (hlt : ∀ r, r ∈ L → r < K + M) {v : Nat → Nat} (hv : ∀ j, v j < 256) (hz : ∀ r, r ∈ L → xs K (fun j => mulN (genN K r j) (v j)) = 0) : ∀ j, j < K → v j = 0 := by
  have h1 : ∀ r, r ∈ L → r < K → v r = 0 := fun r hr hrK => by
    have h := hz r hr
    rw [xs_one (c := r) hrK (fun i _ hi => by unfold genN; rw [if_pos hrK, if_neg (Ne.symm hi)]; exact zero_mul _)] at h
    unfold genN at h
    rw [if_pos hrK, if_pos rfl, one_mul (hv r)] at h
    exact h
  obtain ⟨ys, hys⟩ : ∃ ys, ys = (List.range K).filter (fun j => !L.contains j) := ⟨_, rfl⟩
  obtain ⟨xl, hxl⟩ : ∃ xl, xl = L.filter (fun r => !decide (r < K)) := ⟨_, rfl⟩
  have hym : ∀ y, y ∈ ys ↔ y < K ∧ y ∉ L := fun y => by rw [hys]; simp [List.mem_filter]
  have hxm : ∀ x, x ∈ xl ↔ x ∈ L ∧ ¬ x < K := fun x => by rw [hxl]; simp [List.mem_filter]
  have hlen : ys.length ≤ xl.length := by
    have e1 : ((List.range K).filter (fun j => L.contains j)).length + ys.length = K := by
      have := len_parts (fun j => L.contains j) (List.range K)
      rw [List.length_range] at this
      rw [hys]; exact this
    have e2 : (L.filter (fun r => decide (r < K))).length + xl.length = K := by
      have := len_parts (fun r => decide (r < K)) L
      rw [hL] at this
      rw [hxl]; exact this
    have e3 : ((List.range K).filter (fun j => L.contains j)).length = (L.filter (fun r => decide (r < K))).length := by
      refine List.Perm.length_eq ((List.perm_ext_iff_of_nodup (List.nodup_range.filter _) (hnd.filter _)).2 fun a => ?_)
      simp only [List.mem_filter, List.mem_range, decide_eq_true_eq, List.contains_iff_mem]
      exact ⟨fun ⟨h1, h2⟩ => ⟨h2, h1⟩, fun ⟨h1, h2⟩ => ⟨h2, h1⟩⟩
    omega
  have hc := cauchy ys xl v hlen (by rw [hys]; exact List.nodup_range.filter _) (by rw [hxl]; exact hnd.filter _) (fun y hy => by have := ((hym y).1 hy).1; omega) (fun x hx => by have := hlt x ((hxm x).1 hx).1; omega)
    (fun x hx y hy e => ((hym y).1 hy).2 (e ▸ ((hxm x).1 hx).1)) hv (fun x hx => by
      obtain ⟨hx1, hx2⟩ := (hxm x).1 hx
      have h := hz x hx1
      rw [xs_ls, ls_filter _ (fun j => !L.contains j) _ (fun y hy hp => by
        have hyL : y ∈ L := by simpa using hp
        rw [h1 y hyL (by simpa using hy)]; exact mul_zero _), ← hys] at h
      rw [← h]
      refine ls_congr fun y _ => ?_
      unfold genN
      rw [if_neg hx2]
      exact mul_comm _ _)
  intro j hj
  by_cases hjL : j ∈ L
  · exact h1 j hjL hj
  · exact hc j ((hym j).2 ⟨hj, hjL⟩)
def ints (L : List Nat) : List Int := L.map Int.ofNat
theorem len_ints (L : List Nat) : (ints L).length = L.length := List.length_map ..
theorem ints_get {L : List Nat} {i : Nat} (h : i < L.length) : ((ints L).getD i 0).toNat = L[i] := by simp [ints, List.getD_eq_getElem?_getD, h]
theorem any_end {K M : Nat} (hK : 1 ≤ K ∧ K ≤ 6) (hM : M ≤ 7) {L : List Nat} (hL : L.length = K) (hnd : L.Nodup) (hlt : ∀ r, r ∈ L → r < K + M) (drops : List Int) (i : Int) :
    Ev (fun k => corncriblaw02_MatrixAny.l1 k K drops (ints L) i (K + M : Nat) K (cellsOf (K + M) K (genI K))) true := by
  refine Ev.succ ?_
  simp only [corncriblaw02_MatrixAny.l1]
  have hl : (ints L).length = K := by rw [len_ints, hL]
  refine Ev.neg (by rw [hl]; omega) ?_
  have hg := ok_cells (n := K + M) (m := K) (genI K) (by omega) (by omega) hK.1 (by omega)
  have hp := ok_cells (n := K) (m := K) (pickF K (cellsOf (K + M) K (genI K)) (ints L)) hK.1 (by omega) hK.1 (by omega)
  rw [pick_f hg (fun x hx => by obtain ⟨r, hr, rfl⟩ := List.mem_map.1 hx; have := hlt r hr; have e : Int.ofNat r = (r : Int) := rfl; omega) (by intro h; rw [h] at hl; simp at hl; omega) (by rw [hl]; omega), hl]
  simp only [Option.bind_some]
  rcases inv_f hp with ⟨_, v, hv, ⟨j, hj, hne⟩, hz⟩ | ⟨R, _, h1, _⟩
  · refine absurd (gen_free (by omega) hL hnd hlt hv (fun r hr => ?_) j hj) hne
    obtain ⟨q, hq, rfl⟩ := List.mem_iff_getElem.1 hr
    rw [← hz q (by omega)]
    refine xs_congr fun y hy => congrArg (fun z => mulN z (v y)) ?_
    have hq' : q < (ints L).length := by rw [hl]; omega
    have e := ent_pick (n := K + M) (m := K) (s := cellsOf (K + M) K (genI K)) (l := ints L) hq' hy
    rw [hl] at e
    rw [e, ints_get hq, ent_cells (fun i j _ _ => genI_by K i j) (hlt _ hr) hy, genI_N hy]
  · rw [h1]
    simp only [Option.bind_some, if_true, beq_self_eq_true]
    exact Ev.now _
theorem ints_drop {L : List Nat} {a : Nat} : (ints L).take a ++ (ints L).drop (a + 1) = ints (L.take a ++ L.drop (a + 1)) := by simp [ints, List.map_take, List.map_drop]
theorem any_l1 {K M : Nat} (hK : 1 ≤ K ∧ K ≤ 6) (hM : M ≤ 7) (drops : List Int) (hd : drops.length ≤ 140737488355328) : ∀ (d : Nat) (L : List Nat) (i : Nat), L.length = K + d → d ≤ 7 → i ≤ 7 - d → L.Nodup → (∀ r, r ∈ L → r < K + M) →
    Ev (fun k => corncriblaw02_MatrixAny.l1 k K drops (ints L) i (K + M : Nat) K (cellsOf (K + M) K (genI K))) true
  | 0, L, i, hL, _, _, hnd, hlt => any_end hK hM hL hnd hlt drops i
  | d + 1, L, i, hL, hd7, hi, hnd, hlt => by
    have hl : (ints L).length = K + (d + 1) := by rw [len_ints, hL]
    have step : ∀ a, a < L.length → Ev (fun k => corncriblaw02_MatrixAny.l1 k K drops (ints (L.take a ++ L.drop (a + 1))) ((i + 1 : Nat) : Int) (K + M : Nat) K (cellsOf (K + M) K (genI K))) true := fun a ha => by
      have he : L.take a ++ L.drop (a + 1) = L.eraseIdx a := (List.eraseIdx_eq_take_drop_succ ..).symm
      rw [he]
      refine any_l1 hK hM drops hd d (L.eraseIdx a) (i + 1) (by rw [List.length_eraseIdx_of_lt ha]; omega) (by omega) (by omega) (hnd.eraseIdx a) fun r hr => hlt r (List.mem_of_mem_eraseIdx hr)
    have hw : wrap64 ((i : Int) + 1) = ((i + 1 : Nat) : Int) := by rw [wrap_id (by omega) (by omega)]; omega
    refine Ev.succ ?_
    simp only [corncriblaw02_MatrixAny.l1]
    refine Ev.pos (by rw [hl]; omega) ?_
    by_cases hi2 : (i : Int) < (drops.length : Int)
    · obtain ⟨a, ha⟩ : ∃ a : Nat, wrap64 (Int.tmod (IntKind.u64.wrap (rd drops i)) (IntKind.u64.wrap ((ints L).length : Int))) = (a : Int) ∧ a < L.length := by
        rw [u64_wrap, u64_wrap, hl]
        have e1 : ((K + (d + 1) : Nat) : Int) % 18446744073709551616 = ((K + (d + 1) : Nat) : Int) := by omega
        rw [e1, Int.tmod_eq_emod_of_nonneg (by omega)]
        have h1 := Int.emod_nonneg (rd drops i % 18446744073709551616) (b := ((K + (d + 1) : Nat) : Int)) (by omega)
        have h2 := Int.emod_lt_of_pos (rd drops i % 18446744073709551616) (b := ((K + (d + 1) : Nat) : Int)) (by omega)
        obtain ⟨a, ha⟩ := Int.eq_ofNat_of_zero_le h1
        refine ⟨a, ?_, by omega⟩
        rw [wrap_id (by omega) (by omega), ha]
      obtain ⟨ha, hal⟩ := ha
      rw [ha]
      have hwa : wrap64 ((a : Int) + 1) = ((a + 1 : Nat) : Int) := by rw [wrap_id (by omega) (by omega)]; omega
      rw [hwa, hw]
      refine Ev.pos hi2 (Ev.pos (Int.natCast_nonneg _) (Ev.neg (by clear hw hwa ha; rw [u64_wrap, hl]; omega) ?_))
      simp only [Option.bind_some, Int.toNat_natCast, List.nil_append]
      clear hw hwa ha
      refine Ev.pos (by omega) (Ev.pos (by rw [hl]; omega) (Ev.pos (by simp [len_ints]; omega) (Ev.pos (by omega) (Ev.pos (by rw [hl]; omega) (Ev.pos (by simp [len_ints]; omega) ?_)))))
      rw [ints_drop]
      exact step a hal
    · refine Ev.neg hi2 ?_
      rw [hw]
      clear hw
      simp only [Option.bind_some, List.nil_append]
      refine Ev.pos (by omega) (Ev.pos (by simp) (Ev.pos (by omega) (Ev.pos (by rw [hl]; omega) (Ev.pos (by simp [len_ints]; omega) ?_))))
      have := step 0 (by omega)
      rw [← ints_drop] at this
      exact this
theorem ints_range (i : Nat) : ints (List.range i) ++ [(i : Int)] = ints (List.range (i + 1)) := by simp [ints, List.range_succ]
theorem any_l0 {K M : Nat} (hK : 1 ≤ K ∧ K ≤ 6) (hM : M ≤ 7) (drops : List Int) (hd : drops.length ≤ 140737488355328) : ∀ (d i : Nat), i + d = K + M →
    Ev (fun k => corncriblaw02_MatrixAny.l0 k K drops (ints (List.range i)) (K + M : Nat) i (K + M : Nat) K (cellsOf (K + M) K (genI K))) true
  | 0, i, h => by
    refine Ev.succ ?_
    simp only [corncriblaw02_MatrixAny.l0]
    refine Ev.neg (by omega) ?_
    exact any_l1 hK hM drops hd M (List.range i) 0 (by rw [List.length_range]; omega) hM (by omega) List.nodup_range (fun r hr => by have := List.mem_range.1 hr; omega)
  | d + 1, i, h => by
    refine Ev.succ ?_
    simp only [corncriblaw02_MatrixAny.l0]
    refine Ev.pos (by omega) (Ev.pos (by simp [len_ints]; omega) ?_)
    rw [ints_range, show wrap64 ((i : Int) + 1) = ((i + 1 : Nat) : Int) from by rw [wrap_id (by omega) (by omega)]; omega]
    exact any_l0 hK hM drops hd d (i + 1) (by omega)
theorem gen_f {K M : Nat} (hK : 1 ≤ K) (h : K + M ≤ 255) : matrix_Generator.f K M = some (((K + M : Nat) : Int), (K : Int), cellsOf (K + M) K (genI K), 0) := by
  unfold matrix_Generator.f genV
  rw [if_pos (by omega)]
  rw [← Int.natCast_add, Int.toNat_natCast, Int.toNat_natCast]
end Go.Proofs.Ytoghhpkmficnmaa.Al
namespace Go.Proofs.Ytoghhpkmficnmaa.Pure
open Go.RowKit Go.Proofs.Ytoghhpkmficnmaa.GfMath Go.Proofs.Ytoghhpkmficnmaa.GfRef Go.Proofs.Ytoghhpkmficnmaa.Grid Go.Proofs.Ytoghhpkmficnmaa.Al Go.Proofs.Ytoghhpkmficnmaa.Base Go.Proofs.YtoghhpkmficnmaaW.PrintWords
theorem MatrixAny : corncriblaw02_MatrixAny.Pure := by
  intro a0 a1 l2 _ _ _ hl2 _
  refine Ev.rounds (g := fun k => corncriblaw02_MatrixAny.f k a0 a1 l2) ?_
  unfold corncriblaw02_MatrixAny.f
  rw [works_f, side_f]
  simp only [Option.bind_some, if_true]
  obtain ⟨M, hM, hM7⟩ : ∃ M : Nat, wrap64 (Int.tmod (IntKind.u64.wrap a1) 8) = (M : Int) ∧ M ≤ 7 := by
    rw [u64_wrap, Int.tmod_eq_emod_of_nonneg (by omega)]
    refine ⟨(a1 % 18446744073709551616 % 8).toNat, ?_, by omega⟩
    rw [wrap_id (by omega) (by omega)]; omega
  have hK := sideN_b a0
  rw [hM, gen_f hK.1 (by omega), show wrap64 (((sideN a0 : Nat) : Int) + (M : Int)) = ((sideN a0 + M : Nat) : Int) from by rw [wrap_id (by omega) (by omega)]; omega]
  simp only [Option.bind_some, if_true]
  exact any_l0 hK hM7 l2 (by omega) (sideN a0 + M) 0 (by omega)
end Go.Proofs.Ytoghhpkmficnmaa.Pure
