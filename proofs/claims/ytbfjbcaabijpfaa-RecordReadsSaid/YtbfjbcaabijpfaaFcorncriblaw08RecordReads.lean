/- The law RecordReads walked. An own text in the printer's form. -/
import Derived.Test.YtbfjbcaabijpfaaPzh
namespace Go.Proofs.Ytbfjbcaabijpfaa.Al
open Go.RowKit Go.Proofs.Ytbfjbcaabijpfaa.Base Go.Proofs.YtbfjbcaabijpfaaW.PrintWords Go.Proofs.YtbfjbcaabijpfaaW.PrintLast Go.Proofs.YtbfjbcaabijpfaaW.PrintMore
set_option linter.unusedVariables false
set_option linter.unusedSimpArgs false
def corncriblaw08_RecordReads.f (k : Nat) (a0 : ByteArray) : Option Bool :=
  (record_Decode.f k a0).bind fun a => (corncribref08_Decode.f k a0).bind fun b =>
    (corncribbook_SameRecord.f k a.1 a.2.1 a.2.2.1 a.2.2.2.1 a.2.2.2.2.1 a.2.2.2.2.2.1 a.2.2.2.2.2.2.1 a.2.2.2.2.2.2.2.1 a.2.2.2.2.2.2.2.2.1 b.1 b.2.1 b.2.2.1 b.2.2.2.1 b.2.2.2.2.1 b.2.2.2.2.2.1 b.2.2.2.2.2.2.1 b.2.2.2.2.2.2.2.1 b.2.2.2.2.2.2.2.2.1).bind fun t =>
      (corncriblaw08_works.f k).bind fun v => if t = true ∧ a.2.2.2.2.2.2.2.2.2 = b.2.2.2.2.2.2.2.2.2 ∧ v = true then some true else none
set_option maxHeartbeats 2000000 in
set_option maxRecDepth 100000 in
theorem recordReads_core (k : Nat) (s : ByteArray) (a0 a1 a2 a3 : Int) (a4 a5 : ByteArray) (a6 : Bool) (a7 : List ByteArray) (a8 : List S50) (b0 b1 b2 b3 : Int) (b4 b5 : ByteArray) (b6 : Bool) (b7 : List ByteArray) (b8 : List S50) (e : Int) (w : World)
    (ha : record_Decode.f k s = some (a0, a1, a2, a3, a4, a5, a6, a7, a8, e)) (hb : corncribref08_Decode.f k s = some (b0, b1, b2, b3, b4, b5, b6, b7, b8, e)) (hs : corncribbook_SameRecord.f k a0 a1 a2 a3 a4 a5 a6 a7 a8 b0 b1 b2 b3 b4 b5 b6 b7 b8 = some true) (hw : corncriblaw08_works.f k = some true) :
    Calls Try.prog 6 #[.string s] w fun e w' => e = .returned (.bool true) ∧ Below w.heap.size w w' := by
  have hu25 := Try.underlying25
  have HA := Aside0.mk ha
  have HBB := Aside0.mk hb
  have HS := Aside0.mk hs
  have HW := Aside0.mk hw
  have HB := Aside0.mk (Below.refl w.heap.size w)
  clear ha hb hs hw
  go_enter Try.func6, Try.ntmps6
  go_upto_region 2 with (first | (go_at_call 18; (with_reducible refine (record_Decode.calls k s _ _ _ _ _ _ _ _ _ _ _ HA.out).mono ?_); rintro x w1 ⟨v7, v8, rfl, h7, h8, hb⟩; obtain ⟨A7, c7, e7⟩ := Kd.R_slice h7; subst e7; obtain ⟨A8, c8, e8⟩ := Kd.R_slice h8; subst e8; have R7 := Aside0.mk h7; have R8 := Aside0.mk h8; have HB1 := Aside0.mk hb; clear h7 h8 hb) | ((with_reducible refine gate_dst (N := 3) rfl ?_); refine box_event ?hg (N := 3) ?hd (cs := #[.int .i64 0, .int .i64 0, .int .i64 0, .int .i64 0, .string (⟨#[]⟩ : ByteArray), .string (⟨#[]⟩ : ByteArray), .bool false, .slice none 0 0, .slice none 0 0]) (t := 25) ?hr ?_; (case hd => rfl); (case hg => rfl); (case hr => first | (go_simp; done) | (go_simp; rfl)); intro g3 hg_ w2 hbox hb; have GE3 := Aside0.mk (Nat.le_of_eq hg_.symm); have BX3 := Aside0.mk hbox; have HBX3 := Aside0.mk hb; have hz3_0 : w2.cell? ⟨g3, 0, none⟩ = some (.int .i64 0) := (blk_cell hbox 0).trans rfl; have hzf3_0 := blk_frozen hbox 0; have hz3_1 : w2.cell? ⟨g3, 1, none⟩ = some (.int .i64 0) := (blk_cell hbox 1).trans rfl; have hzf3_1 := blk_frozen hbox 1; have hz3_2 : w2.cell? ⟨g3, 2, none⟩ = some (.int .i64 0) := (blk_cell hbox 2).trans rfl; have hzf3_2 := blk_frozen hbox 2; have hz3_3 : w2.cell? ⟨g3, 3, none⟩ = some (.int .i64 0) := (blk_cell hbox 3).trans rfl; have hzf3_3 := blk_frozen hbox 3; have hz3_4 : w2.cell? ⟨g3, 4, none⟩ = some (.string (⟨#[]⟩ : ByteArray)) := (blk_cell hbox 4).trans rfl; have hzf3_4 := blk_frozen hbox 4; have hz3_5 : w2.cell? ⟨g3, 5, none⟩ = some (.string (⟨#[]⟩ : ByteArray)) := (blk_cell hbox 5).trans rfl; have hzf3_5 := blk_frozen hbox 5; have hz3_6 : w2.cell? ⟨g3, 6, none⟩ = some (.bool false) := (blk_cell hbox 6).trans rfl; have hzf3_6 := blk_frozen hbox 6; have hz3_7 : w2.cell? ⟨g3, 7, none⟩ = some (.slice none 0 0) := (blk_cell hbox 7).trans rfl; have hzf3_7 := blk_frozen hbox 7; have hz3_8 : w2.cell? ⟨g3, 8, none⟩ = some (.slice none 0 0) := (blk_cell hbox 8).trans rfl; have hzf3_8 := blk_frozen hbox 8;  clear hg_ hbox hb))
  have B3 : Aside0 ((((((((((w2.setCell ⟨g3, 0, none⟩ (.int .i64 a0)).setCell ⟨g3, 1, none⟩ (.int .i64 a1)).setCell ⟨g3, 2, none⟩ (.int .i64 a2)).setCell ⟨g3, 3, none⟩ (.int .i64 a3)).setCell ⟨g3, 4, none⟩ (.string a4)).setCell ⟨g3, 5, none⟩ (.string a5)).setCell ⟨g3, 6, none⟩ (.bool a6)).setCell ⟨g3, 7, none⟩ (.slice A7 a7.length c7)).setCell ⟨g3, 8, none⟩ (.slice A8 a8.length c8)).heap[g3]? = some (.cells #[.int .i64 a0, .int .i64 a1, .int .i64 a2, .int .i64 a3, .string a4, .string a5, .bool a6, .slice A7 a7.length c7, .slice A8 a8.length c8] 25 (0, 0))) := ⟨set9 BX3.out⟩
  have HB3 : Aside0 (Below w1.heap.size w1 (((((((((w2.setCell ⟨g3, 0, none⟩ (.int .i64 a0)).setCell ⟨g3, 1, none⟩ (.int .i64 a1)).setCell ⟨g3, 2, none⟩ (.int .i64 a2)).setCell ⟨g3, 3, none⟩ (.int .i64 a3)).setCell ⟨g3, 4, none⟩ (.string a4)).setCell ⟨g3, 5, none⟩ (.string a5)).setCell ⟨g3, 6, none⟩ (.bool a6)).setCell ⟨g3, 7, none⟩ (.slice A7 a7.length c7)).setCell ⟨g3, 8, none⟩ (.slice A8 a8.length c8))) := ⟨below9 HBX3.out GE3.out⟩
  generalize eW : (((((((((w2.setCell ⟨g3, 0, none⟩ (.int .i64 a0)).setCell ⟨g3, 1, none⟩ (.int .i64 a1)).setCell ⟨g3, 2, none⟩ (.int .i64 a2)).setCell ⟨g3, 3, none⟩ (.int .i64 a3)).setCell ⟨g3, 4, none⟩ (.string a4)).setCell ⟨g3, 5, none⟩ (.string a5)).setCell ⟨g3, 6, none⟩ (.bool a6)).setCell ⟨g3, 7, none⟩ (.slice A7 a7.length c7)).setCell ⟨g3, 8, none⟩ (.slice A8 a8.length c8) : World) = W3 at B3 HB3 ⊢
  clear eW hz3_0 hzf3_0 hz3_1 hzf3_1 hz3_2 hzf3_2 hz3_3 hzf3_3 hz3_4 hzf3_4 hz3_5 hzf3_5 hz3_6 hzf3_6 hz3_7 hzf3_7 hz3_8 hzf3_8
  go_upto_region 3 with (first | (go_at_call 19; (with_reducible refine (corncribref08_Decode.calls k s _ _ HBB.out).mono ?_); rintro x w4 ⟨E7, d7, v8', rfl, h7, h7c, h8, hb⟩; obtain ⟨E8, d8, e8⟩ := Kd.R_slice h8; subst e8; have C7 := Aside0.mk h7; have CC7 := Aside0.mk h7c; have S8 := Aside0.mk h8; have HB4 := Aside0.mk hb; clear h7 h7c h8 hb) | ((with_reducible refine gate_dst (N := 5) rfl ?_); refine box_event ?hg (N := 5) ?hd (cs := #[.int .i64 0, .int .i64 0, .int .i64 0, .int .i64 0, .string (⟨#[]⟩ : ByteArray), .string (⟨#[]⟩ : ByteArray), .bool false, .slice none 0 0, .slice none 0 0]) (t := 25) ?hr ?_; (case hd => rfl); (case hg => rfl); (case hr => first | (go_simp; done) | (go_simp; rfl)); intro g5 hg_ w5 hbox hb; have GE5 := Aside0.mk (Nat.le_of_eq hg_.symm); have BX5 := Aside0.mk hbox; have HBX5 := Aside0.mk hb; have hz5_0 : w5.cell? ⟨g5, 0, none⟩ = some (.int .i64 0) := (blk_cell hbox 0).trans rfl; have hzf5_0 := blk_frozen hbox 0; have hz5_1 : w5.cell? ⟨g5, 1, none⟩ = some (.int .i64 0) := (blk_cell hbox 1).trans rfl; have hzf5_1 := blk_frozen hbox 1; have hz5_2 : w5.cell? ⟨g5, 2, none⟩ = some (.int .i64 0) := (blk_cell hbox 2).trans rfl; have hzf5_2 := blk_frozen hbox 2; have hz5_3 : w5.cell? ⟨g5, 3, none⟩ = some (.int .i64 0) := (blk_cell hbox 3).trans rfl; have hzf5_3 := blk_frozen hbox 3; have hz5_4 : w5.cell? ⟨g5, 4, none⟩ = some (.string (⟨#[]⟩ : ByteArray)) := (blk_cell hbox 4).trans rfl; have hzf5_4 := blk_frozen hbox 4; have hz5_5 : w5.cell? ⟨g5, 5, none⟩ = some (.string (⟨#[]⟩ : ByteArray)) := (blk_cell hbox 5).trans rfl; have hzf5_5 := blk_frozen hbox 5; have hz5_6 : w5.cell? ⟨g5, 6, none⟩ = some (.bool false) := (blk_cell hbox 6).trans rfl; have hzf5_6 := blk_frozen hbox 6; have hz5_7 : w5.cell? ⟨g5, 7, none⟩ = some (.slice none 0 0) := (blk_cell hbox 7).trans rfl; have hzf5_7 := blk_frozen hbox 7; have hz5_8 : w5.cell? ⟨g5, 8, none⟩ = some (.slice none 0 0) := (blk_cell hbox 8).trans rfl; have hzf5_8 := blk_frozen hbox 8;  clear hg_ hbox hb))
  have B5 : Aside0 ((((((((((w5.setCell ⟨g5, 0, none⟩ (.int .i64 b0)).setCell ⟨g5, 1, none⟩ (.int .i64 b1)).setCell ⟨g5, 2, none⟩ (.int .i64 b2)).setCell ⟨g5, 3, none⟩ (.int .i64 b3)).setCell ⟨g5, 4, none⟩ (.string b4)).setCell ⟨g5, 5, none⟩ (.string b5)).setCell ⟨g5, 6, none⟩ (.bool b6)).setCell ⟨g5, 7, none⟩ (.slice E7 b7.length d7)).setCell ⟨g5, 8, none⟩ (.slice E8 b8.length d8)).heap[g5]? = some (.cells #[.int .i64 b0, .int .i64 b1, .int .i64 b2, .int .i64 b3, .string b4, .string b5, .bool b6, .slice E7 b7.length d7, .slice E8 b8.length d8] 25 (0, 0))) := ⟨set9 BX5.out⟩
  have HB5 : Aside0 (Below w4.heap.size w4 (((((((((w5.setCell ⟨g5, 0, none⟩ (.int .i64 b0)).setCell ⟨g5, 1, none⟩ (.int .i64 b1)).setCell ⟨g5, 2, none⟩ (.int .i64 b2)).setCell ⟨g5, 3, none⟩ (.int .i64 b3)).setCell ⟨g5, 4, none⟩ (.string b4)).setCell ⟨g5, 5, none⟩ (.string b5)).setCell ⟨g5, 6, none⟩ (.bool b6)).setCell ⟨g5, 7, none⟩ (.slice E7 b7.length d7)).setCell ⟨g5, 8, none⟩ (.slice E8 b8.length d8))) := ⟨below9 HBX5.out GE5.out⟩
  generalize eW : (((((((((w5.setCell ⟨g5, 0, none⟩ (.int .i64 b0)).setCell ⟨g5, 1, none⟩ (.int .i64 b1)).setCell ⟨g5, 2, none⟩ (.int .i64 b2)).setCell ⟨g5, 3, none⟩ (.int .i64 b3)).setCell ⟨g5, 4, none⟩ (.string b4)).setCell ⟨g5, 5, none⟩ (.string b5)).setCell ⟨g5, 6, none⟩ (.bool b6)).setCell ⟨g5, 7, none⟩ (.slice E7 b7.length d7)).setCell ⟨g5, 8, none⟩ (.slice E8 b8.length d8) : World) = W5 at B5 HB5 ⊢
  clear eW hz5_0 hzf5_0 hz5_1 hzf5_1 hz5_2 hzf5_2 hz5_3 hzf5_3 hz5_4 hzf5_4 hz5_5 hzf5_5 hz5_6 hzf5_6 hz5_7 hzf5_7 hz5_8 hzf5_8
  have B35 := Aside0.mk (blk_below (blk_below B3.out HB4.out) HB5.out)
  have ha0 : W5.cell? ⟨g3, 0, none⟩ = some (.int .i64 a0) := (blk_cell B35.out 0).trans rfl
  have hb0 : W5.cell? ⟨g5, 0, none⟩ = some (.int .i64 b0) := (blk_cell B5.out 0).trans rfl
  have ha1 : W5.cell? ⟨g3, 1, none⟩ = some (.int .i64 a1) := (blk_cell B35.out 1).trans rfl
  have hb1 : W5.cell? ⟨g5, 1, none⟩ = some (.int .i64 b1) := (blk_cell B5.out 1).trans rfl
  have ha2 : W5.cell? ⟨g3, 2, none⟩ = some (.int .i64 a2) := (blk_cell B35.out 2).trans rfl
  have hb2 : W5.cell? ⟨g5, 2, none⟩ = some (.int .i64 b2) := (blk_cell B5.out 2).trans rfl
  have ha3 : W5.cell? ⟨g3, 3, none⟩ = some (.int .i64 a3) := (blk_cell B35.out 3).trans rfl
  have hb3 : W5.cell? ⟨g5, 3, none⟩ = some (.int .i64 b3) := (blk_cell B5.out 3).trans rfl
  have ha4 : W5.cell? ⟨g3, 4, none⟩ = some (.string a4) := (blk_cell B35.out 4).trans rfl
  have hb4 : W5.cell? ⟨g5, 4, none⟩ = some (.string b4) := (blk_cell B5.out 4).trans rfl
  have ha5 : W5.cell? ⟨g3, 5, none⟩ = some (.string a5) := (blk_cell B35.out 5).trans rfl
  have hb5 : W5.cell? ⟨g5, 5, none⟩ = some (.string b5) := (blk_cell B5.out 5).trans rfl
  have ha6 : W5.cell? ⟨g3, 6, none⟩ = some (.bool a6) := (blk_cell B35.out 6).trans rfl
  have hb6 : W5.cell? ⟨g5, 6, none⟩ = some (.bool b6) := (blk_cell B5.out 6).trans rfl
  have ha7 : W5.cell? ⟨g3, 7, none⟩ = some (.slice A7 a7.length c7) := (blk_cell B35.out 7).trans rfl
  have hb7 : W5.cell? ⟨g5, 7, none⟩ = some (.slice E7 b7.length d7) := (blk_cell B5.out 7).trans rfl
  have ha8 : W5.cell? ⟨g3, 8, none⟩ = some (.slice A8 a8.length c8) := (blk_cell B35.out 8).trans rfl
  have hb8 : W5.cell? ⟨g5, 8, none⟩ = some (.slice E8 b8.length d8) := (blk_cell B5.out 8).trans rfl
  have r7 := Kd.R_below (Kd.R_below (Kd.R_below R7.out HB3.out) HB4.out) HB5.out
  have r8 := Kd.R_below (Kd.R_below (Kd.R_below R8.out HB3.out) HB4.out) HB5.out
  have s7 := Kd.C_below C7.out HB5.out
  have s8 := Kd.R_below S8.out HB5.out
  have Q7 := Aside0.mk (Kd.R_reads' r7)
  have Q8 := Aside0.mk (Kd.R_reads' r8)
  have T7 := Aside0.mk s7
  have T8 := Aside0.mk (Kd.R_reads' s8)
  have HB6 : Aside0 (Below w.heap.size w W5) := ⟨below_step (w := w) (below_step (w := w) (below_step (w := w) HB1.out HB3.out) HB4.out) HB5.out⟩
  clear r7 r8 s7 s8
  go_wp2_with (first | (go_at_call 13; (with_reducible refine (corncribbook_SameRecord.callsT k a0 a1 a2 a3 a4 a5 a6 _ _ a7 _ _ a8 b0 b1 b2 b3 b4 b5 b6 _ _ b7 _ _ b8 true _ Q7.out.2.2 Q7.out.2.1 Q8.out.2.2 Q8.out.2.1 T7.out CC7.out T8.out.2.2 T8.out.2.1 HS.out rfl).mono ?_); rintro x w6 ⟨rfl, hb⟩; have HB7 := Aside0.mk (below_step (w := w) HB6.out hb); clear hb) | (go_at_call 14; (with_reducible refine (corncriblaw08_works.calls k true _ HW.out).mono ?_); rintro x w7 ⟨rfl, hb⟩; have HB8 := Aside0.mk (below_step (w := w) HB7.out hb); clear hb))
  go_ret
  exact ⟨rfl, HB8.out⟩
theorem corncriblaw08_RecordReads.calls (k : Nat) (a0 : ByteArray) (r : Bool) (w : World) (h : corncriblaw08_RecordReads.f k a0 = some r) (hr_ : r = true) :
    Calls Try.prog 6 #[.string a0] w fun e w' => e = .returned (.bool r) ∧ Below w.heap.size w w' := by
  subst hr_
  unfold corncriblaw08_RecordReads.f at h
  obtain ⟨a, ha, h⟩ := Option.bind_eq_some_iff.mp h
  obtain ⟨b, hb, h⟩ := Option.bind_eq_some_iff.mp h
  obtain ⟨t, ht, h⟩ := Option.bind_eq_some_iff.mp h
  obtain ⟨v, hv, h⟩ := Option.bind_eq_some_iff.mp h
  split at h
  case isFalse => cases h
  rename_i hh
  obtain ⟨rfl, he, rfl⟩ := hh
  obtain ⟨a0', a1, a2, a3, a4, a5, a6, a7, a8, e⟩ := a
  obtain ⟨b0, b1, b2, b3, b4, b5, b6, b7, b8, f⟩ := b
  have he' : e = f := he
  subst he'
  exact recordReads_core k a0 a0' a1 a2 a3 a4 a5 a6 a7 a8 b0 b1 b2 b3 b4 b5 b6 b7 b8 e w ha hb ht hv
end Go.Proofs.Ytbfjbcaabijpfaa.Al
