/- gf.New by its contract: a table of its own whose cells are the powers of 2 and the logs. -/
import Derived.Test.YtcfkldbcmbgomaaF0
import Derived.Test.YtcfkldbcmbgomaaGfMath
import Derived.Deep.RegionHeld3
namespace Go.Proofs.Ytcfkldbcmbgomaa.Al
open Go.RowKit Go.Proofs.Ytcfkldbcmbgomaa.GfMath Go.Proofs.Ytcfkldbcmbgomaa.Base Go.Proofs.YtcfkldbcmbgomaaW.PrintWords Go.Proofs.YtcfkldbcmbgomaaW.PrintLast Go.Proofs.YtcfkldbcmbgomaaW.PrintMore
set_option linter.unusedVariables false
set_option linter.unusedSimpArgs false
noncomputable def Z48 : Array Value := match (Try.prog.info? 48).bind (·.zero) with | some (.agg cs) => cs | _ => #[]
theorem info48 : (Try.prog.info? 48).map (fun i => (i.zero, i.size, i.bytes)) = some (some (.agg Z48), 766, 2560) := by kernel_rfl
theorem Z48_size : Z48.size = 766 := by kernel_rfl
theorem zero48 (w : World) : (zeroValue 48).run Try.prog w = .ok (.agg Z48) w := by
  obtain ⟨i0, hi, hz0, -, -⟩ := info_parts info48
  simp [zeroValue, typeInfo, hi, hz0]
structure CsOk (k : Nat) (cs : Array Value) : Prop where
  size : cs.size = 766
  exp : ∀ j, j < k → cs[j]? = some (.int .u8 (E j)) ∧ cs[j + 255]? = some (.int .u8 (E j))
  log : ∀ j, j < k → cs[510 + E j]? = some (.int .i64 j)
theorem csOk_step {k : Nat} {cs : Array Value} (h : CsOk k cs) (hk : k < 255) (hE : 0 < E k ∧ E k < 256) : CsOk (k + 1) (((cs.setIfInBounds k (.int .u8 (E k))).setIfInBounds (k + 255) (.int .u8 (E k))).setIfInBounds (510 + E k) (.int .i64 k)) := by
  have hs := h.size
  refine ⟨by simpa using hs, fun j hj => ?_, fun j hj => ?_⟩
  · by_cases e : j = k
    · subst e
      constructor
      · rw [Array.getElem?_setIfInBounds_ne (by omega), Array.getElem?_setIfInBounds_ne (by omega), Array.getElem?_setIfInBounds_self_of_lt (by omega)]
      · rw [Array.getElem?_setIfInBounds_ne (by omega), Array.getElem?_setIfInBounds_self_of_lt (by simp; omega)]
    · have := h.exp j (by omega)
      rw [Array.getElem?_setIfInBounds_ne (by omega), Array.getElem?_setIfInBounds_ne (by omega), Array.getElem?_setIfInBounds_ne (by omega), Array.getElem?_setIfInBounds_ne (by omega), Array.getElem?_setIfInBounds_ne (by omega), Array.getElem?_setIfInBounds_ne (by omega)]
      exact this
  · by_cases e : j = k
    · subst e
      rw [Array.getElem?_setIfInBounds_self_of_lt (by simp; omega)]
    · have hne : E k ≠ E j := fun hc => e (E_inj (by omega) (by omega) hc.symm)
      have := h.log j (by omega)
      rw [Array.getElem?_setIfInBounds_ne (by omega), Array.getElem?_setIfInBounds_ne (by omega), Array.getElem?_setIfInBounds_ne (by omega)]
      exact this
theorem bits_xor_lit {n : Nat} (h : 255 < (n : Int) * 2) (h2 : n < 256) : Value.int .i64 (bits BinOp.xor IntKind.i64 ((n : Int) * 2) 285) = Value.int .i64 ((xt n : Nat) : Int) := by
  have := xor_i64_nat (2 * n) 285 (by omega) (by omega)
  unfold xt
  rw [if_neg (by omega), ← this]
  congr 2
  omega
def Tab (w : World) (g : Nat) : Prop := ∃ cs, w.heap[g]? = some (.cells cs 48 (0, 0)) ∧ CsOk 255 cs
set_option maxHeartbeats 8000000 in
set_option maxRecDepth 100000 in
theorem gf_New.calls (w : World) :
    Calls Try.prog 13 #[] w fun e' w' => ∃ g, e' = .returned (.pointer (some ⟨g, 0, none⟩)) ∧ w.heap.size ≤ g ∧ Tab w' g ∧ Below w.heap.size w w' := by
  have HZ := zero48
  go_enter Try.func13, Try.ntmps13
  go_wp2_with (first | ((with_reducible refine gate_dst (N := 5) rfl ?_); refine box_event ?hg (N := 5) ?hd (cs := Z48) (t := 48) ?hr ?_; (case hd => rfl); (case hg => rfl); (case hr => first | (go_simp; done) | (go_simp; rfl)); intro gb hg w1 hbox hb; have HG := Aside0.mk (Nat.le_of_eq hg.symm); have HX := Aside0.mk hbox; have HB := Aside0.mk hb; clear hg hbox hb))
  go_loopw [2, 6] (fun x i wr => ∃ k : Nat, k ≤ 255 ∧ x = .int .i64 (E k) ∧ i = .int .i64 k ∧ Aside0 (∃ cs, wr.heap[gb]? = some (.cells cs 48 (0, 0)) ∧ CsOk k cs) ∧ Aside0 (Below w.heap.size w wr)) (fun _ i _ => (255 - intOf i).toNat)
  case atStart => exact ⟨0, by omega, rfl, rfl, ⟨⟨Z48, HX.out, ⟨Z48_size, fun j hj => absurd hj (by omega), fun j hj => absurd hj (by omega)⟩⟩⟩, HB⟩
  case round =>
    obtain ⟨k, hk, rfl, rfl, HC, HBr⟩ := hrel
    by_cases hlt : k < 255
    · obtain ⟨cs, hcs, hok⟩ := HC.out
      have hE := E_small k hlt
      have HE := Aside0.mk hE
      have HOK := Aside0.mk hok
      have HCS := Aside0.mk hcs
      have q1 : k < cs.size := by rw [hok.size]; omega
      have q2 : k + 255 < cs.size := by rw [hok.size]; omega
      have q3 : 510 + E k < cs.size := by rw [hok.size]; omega
      have hx1 := (blk_cell hcs k).trans (Array.getElem?_eq_getElem q1)
      have hf1 := blk_frozen hcs k
      have e2 : ((k : Int) + 255).toNat = k + 255 := by omega
      have hx2 : ∀ u : Value, (wr.setCell ⟨gb, k, none⟩ u).cell? ⟨gb, ((k : Int) + 255).toNat, none⟩ = some cs[k + 255] := fun u => by
        rw [e2, blk_cell (blk_set hcs k u) (k + 255), Array.getElem?_setIfInBounds_ne (by omega)]
        exact Array.getElem?_eq_getElem q2
      have hf2 : ∀ u : Value, (wr.setCell ⟨gb, k, none⟩ u).frozen? ⟨gb, ((k : Int) + 255).toNat, none⟩ = false := fun u => blk_frozen (blk_set hcs k u) _
      clear e2
      clear hcs hok HC
      have b0 : (0 : Int) ≤ (k : Int) := by omega
      have b1 : (k : Int) < 510 := by omega
      have b2 : (0 : Int) ≤ (k : Int) + 255 := by omega
      have b3 : (k : Int) + 255 < 510 := by omega
      have w1 : IntKind.i64.wrap ((k : Int) + 255) = (k : Int) + 255 := by rw [IntKind.wrap_i64]; omega
      go_wp2_with fail
      go_region_held3 (fun w' => True) (go_keep) (fail)
      obtain ⟨U, eU⟩ : ∃ u, u = Value.int .u8 (IntKind.u8.wrap (E k : Int)) := ⟨_, rfl⟩
      have hU : U = .int .u8 (E k) := by rw [eU]; congr 1; unfold IntKind.wrap; simp [IntKind.signed, IntKind.bits]; have := HE.out; omega
      rw [← eU]
      obtain ⟨W1, eW⟩ : ∃ W, W = ((wr.setCell ⟨gb, k, none⟩ U).setCell ⟨gb, ((k : Int) + 255).toNat, none⟩ U).drew := ⟨_, rfl⟩
      rw [← eW]
      have HC1 : Aside0 (W1.heap[gb]? = some (.cells ((cs.setIfInBounds k U).setIfInBounds (k + 255) U) 48 (0, 0))) := ⟨by
        rw [eW, show ((k : Int) + 255).toNat = k + 255 from by omega]
        exact blk_drew (blk_set (blk_set HCS.out k U) (k + 255) U)⟩
      have HB1 : Aside0 (Below w.heap.size w W1) := ⟨by rw [eW]; exact below_drew1 (below_set (below_set HBr.out HG.out) HG.out)⟩
      have q3' : 510 + E k < ((cs.setIfInBounds k U).setIfInBounds (k + 255) U).size := by simpa using q3
      have hx3 := (blk_cell HC1.out (510 + E k)).trans (Array.getElem?_eq_getElem q3')
      have hf3 := blk_frozen HC1.out (510 + E k)
      have HU := Aside0.mk hU
      clear eW eU hU hx1 hx2 hf1 hf2 w1
      have b4 : (0 : Int) ≤ (E k : Int) := by omega
      have b5 : (E k : Int) < 256 := by omega
      go_wp2_with fail
      all_goals (
        have hok1 := csOk_step HOK.out (by omega) HE.out
        rw [← HU.out] at hok1
        refine ⟨⟨k + 1, by omega, ?_, rfl, ⟨_, blk_set HC1.out _ _, hok1⟩, ⟨below_set HB1.out HG.out⟩⟩, ?_⟩
        · rename_i hc
          first
            | (exact bits_xor_lit (n := E k) (by omega) hE.2)
            | (show Value.int .i64 ((E k : Int) * 2) = Value.int .i64 ((xt (E k) : Nat) : Int)
               rw [show xt (E k) = 2 * E k from by unfold xt; rw [if_pos (by omega)]]
               congr 1; omega)
        · simp [intOf]; omega)
    · obtain rfl : k = 255 := by omega
      obtain ⟨cs, hcs, hok⟩ := HC.out
      go_wp2_with fail
      go_ret
      exact ⟨_, rfl, HG.out, ⟨cs, hcs, hok⟩, HBr.out⟩
end Go.Proofs.Ytcfkldbcmbgomaa.Al
