/- The walk of NetBytes. -/
import Derived.Test.YtnbomedhehoflaaPie
namespace Go.Proofs.Ytnbomedhehoflaa.Al
open Go.RowKit Go.Proofs.YtnbomedhehoflaaW.PrintWords Go.Proofs.YtnbomedhehoflaaW.PrintLast Go.Proofs.YtnbomedhehoflaaW.PrintMore
set_option linter.unusedVariables false
set_option linter.unusedSimpArgs false
def corncriblaw15_NetBytes.f (a0 a1 a2 a3 a4 a5 : Int) (a6 : ByteArray) (l7 : List ByteArray) (l8 : List S72) (s : ByteArray) : Option Bool := if l7.length ≤ 8796093022000 ∧ l8.length ≤ 8796093022000 ∧ s.size ≤ 140737488355328 then some true else none
def encS (x : S32) : ByteArray × Int := LetSpec.encL x.f0 x.f1 x.f2 x.f3 x.f4 x.f5 x.f6 x.f7 x.f8
theorem enc_calls {x : S32} {A7 A8 : Option Addr} {c7 c8 n7 n8 : Nat} {w : World} (e7 : n7 = x.f7.length) (e8 : n8 = x.f8.length) (h7 : Kd.C Kd.string w A7 x.f7.length x.f7) (hc7 : x.f7.length ≤ c7) (h8 : Kd.C k72 w A8 x.f8.length x.f8) (hc8 : x.f8.length ≤ c8) (hb7 : x.f7.length ≤ 8796093022000) (hb8 : x.f8.length ≤ 8796093022000) :
    Calls Try.prog 18 #[.agg #[.int .i64 x.f0, .int .i64 x.f1, .int .i64 x.f2, .int .i64 x.f3, .int .i64 x.f4, .int .i64 x.f5, .string x.f6, .slice A7 n7 c7, .slice A8 n8 c8]] w fun e w' => e = .returned (.tuple #[.string (encS x).1, .int .i64 (encS x).2]) ∧ Below w.heap.size w w' := by
  subst e7 e8
  obtain ⟨k, hk⟩ := Ev.rounds (LetSpec.encodeL_ev x.f0 x.f1 x.f2 x.f3 x.f4 x.f5 x.f6 x.f7 x.f8 hb7 hb8)
  exact letter_Encode.calls k _ _ _ _ _ _ _ A7 c7 x.f7 A8 c8 x.f8 _ _ w h7 hc7 h8 hc8 hk
theorem enc_ok {x : S32} (h : chkS x = 0) : (encS x).2 = 0 ∧ ldX (encS x).1 = x ∧ ldE (encS x).1 = 0 ∧ (encS x).1.size ≤ 140737488355328 := by
  have he := LetSpec.ldV_enc x.f0 x.f1 x.f2 x.f3 x.f4 x.f5 x.f6 x.f7 x.f8 h
  have hs : encS x = (strOfNums (PackMath.enc (LetSpec.letN x.f0 x.f1 x.f2 x.f3 x.f4 x.f5 x.f7 x.f8) (LetSpec.letT x.f6 x.f7 x.f8)), 0) := if_pos h
  have h1 := PackMath.enc_len (LetSpec.let_chk _ _ _ _ _ _ _ _ _ h)
  refine ⟨by rw [hs], ?_, ?_, ?_⟩
  · unfold ldX encS; rw [he]
  · unfold ldE encS; rw [he]
  · rw [hs]
    have h2 : (strOfNums (PackMath.enc (LetSpec.letN x.f0 x.f1 x.f2 x.f3 x.f4 x.f5 x.f7 x.f8) (LetSpec.letT x.f6 x.f7 x.f8))).size = (PackMath.enc (LetSpec.letN x.f0 x.f1 x.f2 x.f3 x.f4 x.f5 x.f7 x.f8) (LetSpec.letT x.f6 x.f7 x.f8)).length := by rw [← Base.B_len, Base.B_nums, List.length_map]
    show (strOfNums _).size ≤ _
    omega
theorem enc_no {x : S32} (h : chkS x ≠ 0) : (encS x).2 ≠ 0 := by
  have : encS x = (⟨#[]⟩, LetSpec.chkL x.f0 x.f1 x.f2 x.f3 x.f4 x.f5 x.f6 x.f7 x.f8) := if_neg h
  rw [this]
  exact h
theorem samex_calls {x : S32} {A7 A8 B7 B8 : Option Addr} {c7 c8 d7 d8 n7 n8 : Nat} {w : World} (e7 : n7 = x.f7.length) (e8 : n8 = x.f8.length) (h1 : RdL w x (.slice A7 n7 c7) (.slice A8 n8 c8)) (h2 : RdL w x (.slice B7 n7 d7) (.slice B8 n8 d8)) (hb7 : x.f7.length ≤ 8796093022000) (hb8 : x.f8.length ≤ 8796093022000) : Calls Try.prog 15 #[.agg #[.int .i64 x.f0, .int .i64 x.f1, .int .i64 x.f2, .int .i64 x.f3, .int .i64 x.f4, .int .i64 x.f5, .string x.f6, .slice A7 n7 c7, .slice A8 n8 c8], .agg #[.int .i64 x.f0, .int .i64 x.f1, .int .i64 x.f2, .int .i64 x.f3, .int .i64 x.f4, .int .i64 x.f5, .string x.f6, .slice B7 n7 d7, .slice B8 n8 d8]] w fun e w' => e = .returned (.bool true) ∧ Below w.heap.size w w' := by
  subst e7 e8
  obtain ⟨⟨a, b, e, p1, p2⟩, ⟨a', b', e', p1', p2'⟩⟩ := h1
  obtain ⟨⟨a2, b2, e2, q1, q2⟩, ⟨a2', b2', e2', q1', q2'⟩⟩ := h2
  injection e with ea _ ec; subst ea ec
  injection e' with ea _ ec; subst ea ec
  injection e2 with ea _ ec; subst ea ec
  injection e2' with ea _ ec; subst ea ec
  obtain ⟨k, hk⟩ := Ev.rounds (LetSpec.sameL_ev x.f0 x.f1 x.f2 x.f3 x.f4 x.f5 x.f6 x.f7 x.f8 (by omega) (by omega))
  exact corncribbook_SameLetter.calls k _ _ _ _ _ _ _ _ _ x.f7 _ _ x.f8 _ _ _ _ _ _ _ _ _ x.f7 _ _ x.f8 true w p1 p2 p1' p2' q1 q2 q1' q2' hk
/-- The walk's step: a letter's bytes are injected into a net without letters. -/
theorem inj1_calls {W w : World} {g : Nat} {X : Nat → Prop} {x : S32} {s : ByteArray} {n7 n8 : Nat} (h : NZ W w g 5 X []) (hx : ldX s = x) (he : ldE s = 0) (hs : s.size ≤ 140737488355328) (e7 : n7 = x.f7.length) (e8 : n8 = x.f8.length) : Calls Try.prog 19 #[.pointer (some ⟨g, 0, none⟩), .string s] w fun e w' => ∃ B7 d7 B8 d8, e = .returned (.tuple #[.agg #[.int .i64 x.f0, .int .i64 x.f1, .int .i64 x.f2, .int .i64 x.f3, .int .i64 x.f4, .int .i64 x.f5, .string x.f6, .slice B7 n7 d7, .slice B8 n8 d8], .int .i64 0]) ∧ NZ W w' g 5 X [x] ∧ RwL w' w.heap.size x (.slice B7 n7 d7) (.slice B8 n8 d8) ∧ Kep X w w' := by
  subst hx e7 e8
  have hc := ld_chk he
  have h0 : injE 5 [] s = 0 := by
    unfold injE sendE
    rw [if_pos he, if_neg (fun c => c hc)]
    rfl
  refine (inj_walk h (by decide) s hs).mono ?_
  rw [h0, show injX 5 [] s = ldX s from if_pos h0, show injL 5 [] s = [ldX s] from if_pos h0]
  rintro e w' ⟨u7, u8, rfl, hn, hr, hk, _⟩
  obtain ⟨B7, d7, rfl⟩ := Kd.R_slice hr.r7
  obtain ⟨B8, d8, rfl⟩ := Kd.R_slice hr.r8
  exact ⟨B7, d7, B8, d8, rfl, hn, hr, hk⟩
theorem take1_calls {W w : World} {g : Nat} {X : Nat → Prop} {x : S32} {n7 n8 : Nat} (h : NZ W w g 5 X [x]) (e7 : n7 = x.f7.length) (e8 : n8 = x.f8.length) : Calls Try.prog 12 #[.pointer (some ⟨g, 0, none⟩), .int .i64 0] w fun e w' => ∃ C7 e7 C8 e8, e = .returned (.tuple #[.agg #[.int .i64 x.f0, .int .i64 x.f1, .int .i64 x.f2, .int .i64 x.f3, .int .i64 x.f4, .int .i64 x.f5, .string x.f6, .slice C7 n7 e7, .slice C8 n8 e8], .int .i64 0]) ∧ NZ W w' g 5 X [] ∧ RwL w' W.heap.size x (.slice C7 n7 e7) (.slice C8 n8 e8) ∧ Kep X w w' ∧ Kt w w' := by
  subst e7 e8
  refine (zk_take h (Nat.le_of_ble_eq_true rfl) (Nat.le_of_ble_eq_true rfl) 0).mono ?_
  rintro e w' ⟨u7, u8, rfl, hn, hr, hk, ht⟩
  obtain ⟨C7, e7, h7⟩ := Kd.R_slice hr.r7
  obtain ⟨C8, e8, h8⟩ := Kd.R_slice hr.r8
  subst h7 h8
  exact ⟨C7, e7, C8, e8, rfl, hn, hr, hk, ht⟩
theorem inj2_calls {W w : World} {g : Nat} {X : Nat → Prop} {s : ByteArray} (h : NZ W w g 5 X []) (hs : s.size ≤ 140737488355328) : Calls Try.prog 19 #[.pointer (some ⟨g, 0, none⟩), .string s] w fun e w' => ∃ (z : S32) (z7 z8 : Nat) (E7 : Option Addr) (k7 : Nat) (E8 : Option Addr) (k8 : Nat) (L : List S32), e = .returned (.tuple #[.agg #[.int .i64 z.f0, .int .i64 z.f1, .int .i64 z.f2, .int .i64 z.f3, .int .i64 z.f4, .int .i64 z.f5, .string z.f6, .slice E7 z7 k7, .slice E8 z8 k8], .int .i64 (ldE s)]) ∧ NZ W w' g 5 X L ∧ (L.length = if ldE s = 0 then 1 else 0) := by
  have hi : injE 5 [] s = ldE s := by
    unfold injE
    split
    · rename_i h0
      rw [h0]
      unfold sendE
      rw [if_neg (fun c => c (ld_chk h0))]
      rfl
    · rfl
  refine (inj_walk h (by decide) s hs).mono ?_
  rintro e w' ⟨u7, u8, rfl, hn, hr, hk, _⟩
  obtain ⟨E7, k7, h7⟩ := Kd.R_slice hr.r7
  obtain ⟨E8, k8, h8⟩ := Kd.R_slice hr.r8
  subst h7 h8
  exact ⟨_, _, _, E7, k7, E8, k8, _, by rw [hi], hn, by unfold injL; rw [hi]; split <;> rfl⟩
set_option maxHeartbeats 8000000 in
set_option maxRecDepth 100000 in
theorem netbytes_ok (x : S32) (n7 n8 : Nat) (A7 : Option Addr) (c7 : Nat) (A8 : Option Addr) (c8 : Nat) (s : ByteArray) (w : World) (e7 : n7 = x.f7.length) (e8 : n8 = x.f8.length) (h7 : Kd.C Kd.string w A7 x.f7.length x.f7) (hc7 : x.f7.length ≤ c7) (h8 : Kd.C k72 w A8 x.f8.length x.f8) (hc8 : x.f8.length ≤ c8) (hb7 : x.f7.length ≤ 8796093022000) (hb8 : x.f8.length ≤ 8796093022000) (hs : s.size ≤ 140737488355328) : Calls Try.prog 6 #[.agg #[.int .i64 x.f0, .int .i64 x.f1, .int .i64 x.f2, .int .i64 x.f3, .int .i64 x.f4, .int .i64 x.f5, .string x.f6, .slice A7 n7 c7, .slice A8 n8 c8], .string s] w fun e w' => e = .returned (.bool true) ∧ Below w.heap.size w w' := by
  have hu32 := Try.underlying32
  have HX0 : Aside0 (RdL w x (.slice A7 n7 c7) (.slice A8 n8 c8)) := ⟨⟨⟨A7, c7, by rw [e7], h7, hc7⟩, ⟨A8, c8, by rw [e8], h8, hc8⟩⟩⟩
  have HN7 := Aside0.mk e7
  have HN8 := Aside0.mk e8
  have HA : Aside0 (Kd.C Kd.string w A7 x.f7.length x.f7 ∧ x.f7.length ≤ c7 ∧ Kd.C k72 w A8 x.f8.length x.f8 ∧ x.f8.length ≤ c8) := ⟨h7, hc7, h8, hc8⟩
  have HBN : Aside0 (x.f7.length ≤ 8796093022000 ∧ x.f8.length ≤ 8796093022000) := ⟨hb7, hb8⟩
  have HS := Aside0.mk hs
  clear e7 e8 h7 hc7 h8 hc8 hb7 hb8 hs
  go_enter Try.func6, Try.ntmps6
  go_upto_region 4 with (first | ((with_reducible refine gate_dst (N := 2) rfl ?_); refine box_event ?hg2 (N := 2) ?hd2 (cs := #[.int .i64 x.f0, .int .i64 x.f1, .int .i64 x.f2, .int .i64 x.f3, .int .i64 x.f4, .int .i64 x.f5, .string x.f6, .slice A7 n7 c7, .slice A8 n8 c8]) (t := 32) ?hr2 ?_; (case hd2 => rfl); (case hg2 => rfl); (case hr2 => first | (go_simp; done) | (go_simp; rfl)); intro g2 hg w1 hbox hb; have BX2 := Aside0.mk hbox; have HB1 := Aside0.mk hb; have GL2 := Aside0.mk (blk_lt hbox); clear hg hbox hb) | (go_at_call 8; refine (z_newX w _ HB1.out (fun k => k = g2) (fun k hk => by rw [hk]; exact GL2.out) 5 (by decide) (by decide)).mono ?_; rintro e w2 ⟨g, rfl, hn, hb⟩; have HN2 := Aside0.mk hn; have BY2 := Aside0.mk (blk_below BX2.out hb); clear hn hb) | (go_at_call 9; refine (works_calls _).mono ?_; rintro e w3 ⟨rfl, hb⟩; have HN3 := Aside0.mk (HN2.out.below hb); have BY3 := Aside0.mk (blk_below BY2.out hb); clear hb))
  obtain ⟨hl0, hl1, hl2, hl3, hl4, hl5, hl6, hl7, hl8⟩ := c9 BY3.out
  obtain ⟨eb, heb⟩ : ∃ eb, eb = encS x := ⟨_, rfl⟩
  have HEB := Aside0.mk heb
  clear heb
  by_cases hc : chkS x = 0
  · obtain ⟨hk0, hk1, hk2, hk3⟩ := enc_ok hc
    rw [← HEB.out] at hk0 hk1 hk2 hk3
    have HK : Aside0 (ldX eb.1 = x ∧ ldE eb.1 = 0 ∧ eb.1.size ≤ 140737488355328) := ⟨hk1, hk2, hk3⟩
    have HK0 := Aside0.mk hk0
    clear hk0 hk1 hk2 hk3 hc
    go_upto_region 7 with (first | (go_at_call 18; refine (enc_calls HN7.out HN8.out (Kd.C_below HA.out.1 HN3.out.bel) HA.out.2.1 (Kd.C_below HA.out.2.2.1 HN3.out.bel) HA.out.2.2.2 HBN.out.1 HBN.out.2).mono ?_; rintro e w4 ⟨rfl, hb⟩; rw [← HEB.out, HK0.out]; have HN4 := Aside0.mk (HN3.out.below hb); have BY4 := Aside0.mk (blk_below BY3.out hb); clear hb hl0 hl1 hl2 hl3 hl4 hl5 hl6 hl7 hl8) | (go_at_call 19; refine (inj1_calls HN4.out HK.out.1 HK.out.2.1 HK.out.2.2 HN7.out HN8.out).mono ?_; rintro e w5 ⟨B7, d7, B8, d8, rfl, hn, hr, hk⟩; have HN5 := Aside0.mk hn; have HR5 := Aside0.mk hr; have BY5 := Aside0.mk ((hk g2 rfl).trans BY4.out); clear hn hr hk) | ((with_reducible refine gate_dst (N := 8) rfl ?_); refine box_event ?hg8 (N := 8) ?hd8 (cs := #[.int .i64 0, .int .i64 0, .int .i64 0, .int .i64 0, .int .i64 0, .int .i64 0, .string (⟨#[]⟩ : ByteArray), .slice none 0 0, .slice none 0 0]) (t := 32) ?hr8 ?_; (case hd8 => rfl); (case hg8 => rfl); (case hr8 => first | (go_simp; done) | (go_simp; rfl)); intro g8 hg w6 hbox hb; have BX8 := Aside0.mk hbox; have HBx8 := Aside0.mk hb; have GE8 := Aside0.mk (show w5.heap.size ≤ g8 from Nat.le_of_eq hg.symm); have GL8 := Aside0.mk (blk_lt hbox); obtain ⟨hz0, hzf0, hz1, hzf1, hz2, hzf2, hz3, hzf3, hz4, hzf4, hz5, hzf5, hz6, hzf6, hz7, hzf7, hz8, hzf8⟩ := c9f hbox; clear hg hbox hb))
    have BY8 : Aside0 ((((((((((w6.setCell ⟨g8, 0, none⟩ (.int .i64 x.f0)).setCell ⟨g8, 1, none⟩ (.int .i64 x.f1)).setCell ⟨g8, 2, none⟩ (.int .i64 x.f2)).setCell ⟨g8, 3, none⟩ (.int .i64 x.f3)).setCell ⟨g8, 4, none⟩ (.int .i64 x.f4)).setCell ⟨g8, 5, none⟩ (.int .i64 x.f5)).setCell ⟨g8, 6, none⟩ (.string x.f6)).setCell ⟨g8, 7, none⟩ (.slice B7 n7 d7)).setCell ⟨g8, 8, none⟩ (.slice B8 n8 d8)).heap[g8]? = some (.cells #[.int .i64 x.f0, .int .i64 x.f1, .int .i64 x.f2, .int .i64 x.f3, .int .i64 x.f4, .int .i64 x.f5, .string x.f6, .slice B7 n7 d7, .slice B8 n8 d8] 32 (0, 0))) := ⟨set9 BX8.out⟩
    have HBy8 : Aside0 (Below w5.heap.size w5 (((((((((w6.setCell ⟨g8, 0, none⟩ (.int .i64 x.f0)).setCell ⟨g8, 1, none⟩ (.int .i64 x.f1)).setCell ⟨g8, 2, none⟩ (.int .i64 x.f2)).setCell ⟨g8, 3, none⟩ (.int .i64 x.f3)).setCell ⟨g8, 4, none⟩ (.int .i64 x.f4)).setCell ⟨g8, 5, none⟩ (.int .i64 x.f5)).setCell ⟨g8, 6, none⟩ (.string x.f6)).setCell ⟨g8, 7, none⟩ (.slice B7 n7 d7)).setCell ⟨g8, 8, none⟩ (.slice B8 n8 d8))) := ⟨below9 HBx8.out GE8.out⟩
    have HSy8 : Aside0 (g8 < (((((((((w6.setCell ⟨g8, 0, none⟩ (.int .i64 x.f0)).setCell ⟨g8, 1, none⟩ (.int .i64 x.f1)).setCell ⟨g8, 2, none⟩ (.int .i64 x.f2)).setCell ⟨g8, 3, none⟩ (.int .i64 x.f3)).setCell ⟨g8, 4, none⟩ (.int .i64 x.f4)).setCell ⟨g8, 5, none⟩ (.int .i64 x.f5)).setCell ⟨g8, 6, none⟩ (.string x.f6)).setCell ⟨g8, 7, none⟩ (.slice B7 n7 d7)).setCell ⟨g8, 8, none⟩ (.slice B8 n8 d8)).heap.size) := ⟨blk_lt BY8.out⟩
    generalize (((((((((w6.setCell ⟨g8, 0, none⟩ (.int .i64 x.f0)).setCell ⟨g8, 1, none⟩ (.int .i64 x.f1)).setCell ⟨g8, 2, none⟩ (.int .i64 x.f2)).setCell ⟨g8, 3, none⟩ (.int .i64 x.f3)).setCell ⟨g8, 4, none⟩ (.int .i64 x.f4)).setCell ⟨g8, 5, none⟩ (.int .i64 x.f5)).setCell ⟨g8, 6, none⟩ (.string x.f6)).setCell ⟨g8, 7, none⟩ (.slice B7 n7 d7)).setCell ⟨g8, 8, none⟩ (.slice B8 n8 d8) : World) = W6 at BY8 HBy8 HSy8 ⊢
    clear hz0 hzf0 hz1 hzf1 hz2 hzf2 hz3 hzf3 hz4 hzf4 hz5 hzf5 hz6 hzf6 hz7 hzf7 hz8 hzf8
    have HR6 := Aside0.mk (HR5.out.below HBy8.out)
    have BY6 := Aside0.mk (blk_below BY5.out HBy8.out)
    have HN6 := Aside0.mk (HN5.out.all HBy8.out)
    go_upto_region 8 with (first | (go_at_call 12; refine (take1_calls HN6.out HN7.out HN8.out).mono ?_; rintro e w7 ⟨C7, e7, C8, e8, rfl, hn, hr, hk, ht⟩; have HN7' := Aside0.mk hn; have HC7 := Aside0.mk hr; have HR7 := Aside0.mk (HR6.out.kt ht); have BY7 := Aside0.mk ((hk g2 (.inl rfl)).trans BY6.out); have BYx7 := Aside0.mk ((hk g8 (.inr ⟨GE8.out, HSy8.out⟩)).trans BY8.out); clear hn hr hk ht) | ((with_reducible refine gate_dst (N := 10) rfl ?_); refine box_event ?hg10 (N := 10) ?hd10 (cs := #[.int .i64 0, .int .i64 0, .int .i64 0, .int .i64 0, .int .i64 0, .int .i64 0, .string (⟨#[]⟩ : ByteArray), .slice none 0 0, .slice none 0 0]) (t := 32) ?hr10 ?_; (case hd10 => rfl); (case hg10 => rfl); (case hr10 => first | (go_simp; done) | (go_simp; rfl)); intro g10 hg w8 hbox hb; have BX10 := Aside0.mk hbox; have HBx10 := Aside0.mk hb; have GE10 := Aside0.mk (show w7.heap.size ≤ g10 from Nat.le_of_eq hg.symm); have GL10 := Aside0.mk (blk_lt hbox); obtain ⟨hz0, hzf0, hz1, hzf1, hz2, hzf2, hz3, hzf3, hz4, hzf4, hz5, hzf5, hz6, hzf6, hz7, hzf7, hz8, hzf8⟩ := c9f hbox; clear hg hbox hb))
    have BY10 : Aside0 ((((((((((w8.setCell ⟨g10, 0, none⟩ (.int .i64 x.f0)).setCell ⟨g10, 1, none⟩ (.int .i64 x.f1)).setCell ⟨g10, 2, none⟩ (.int .i64 x.f2)).setCell ⟨g10, 3, none⟩ (.int .i64 x.f3)).setCell ⟨g10, 4, none⟩ (.int .i64 x.f4)).setCell ⟨g10, 5, none⟩ (.int .i64 x.f5)).setCell ⟨g10, 6, none⟩ (.string x.f6)).setCell ⟨g10, 7, none⟩ (.slice C7 n7 e7)).setCell ⟨g10, 8, none⟩ (.slice C8 n8 e8)).heap[g10]? = some (.cells #[.int .i64 x.f0, .int .i64 x.f1, .int .i64 x.f2, .int .i64 x.f3, .int .i64 x.f4, .int .i64 x.f5, .string x.f6, .slice C7 n7 e7, .slice C8 n8 e8] 32 (0, 0))) := ⟨set9 BX10.out⟩
    have HBy10 : Aside0 (Below w7.heap.size w7 (((((((((w8.setCell ⟨g10, 0, none⟩ (.int .i64 x.f0)).setCell ⟨g10, 1, none⟩ (.int .i64 x.f1)).setCell ⟨g10, 2, none⟩ (.int .i64 x.f2)).setCell ⟨g10, 3, none⟩ (.int .i64 x.f3)).setCell ⟨g10, 4, none⟩ (.int .i64 x.f4)).setCell ⟨g10, 5, none⟩ (.int .i64 x.f5)).setCell ⟨g10, 6, none⟩ (.string x.f6)).setCell ⟨g10, 7, none⟩ (.slice C7 n7 e7)).setCell ⟨g10, 8, none⟩ (.slice C8 n8 e8))) := ⟨below9 HBx10.out GE10.out⟩
    have HSy10 : Aside0 (g10 < (((((((((w8.setCell ⟨g10, 0, none⟩ (.int .i64 x.f0)).setCell ⟨g10, 1, none⟩ (.int .i64 x.f1)).setCell ⟨g10, 2, none⟩ (.int .i64 x.f2)).setCell ⟨g10, 3, none⟩ (.int .i64 x.f3)).setCell ⟨g10, 4, none⟩ (.int .i64 x.f4)).setCell ⟨g10, 5, none⟩ (.int .i64 x.f5)).setCell ⟨g10, 6, none⟩ (.string x.f6)).setCell ⟨g10, 7, none⟩ (.slice C7 n7 e7)).setCell ⟨g10, 8, none⟩ (.slice C8 n8 e8)).heap.size) := ⟨blk_lt BY10.out⟩
    generalize (((((((((w8.setCell ⟨g10, 0, none⟩ (.int .i64 x.f0)).setCell ⟨g10, 1, none⟩ (.int .i64 x.f1)).setCell ⟨g10, 2, none⟩ (.int .i64 x.f2)).setCell ⟨g10, 3, none⟩ (.int .i64 x.f3)).setCell ⟨g10, 4, none⟩ (.int .i64 x.f4)).setCell ⟨g10, 5, none⟩ (.int .i64 x.f5)).setCell ⟨g10, 6, none⟩ (.string x.f6)).setCell ⟨g10, 7, none⟩ (.slice C7 n7 e7)).setCell ⟨g10, 8, none⟩ (.slice C8 n8 e8) : World) = W9 at BY10 HBy10 HSy10 ⊢
    clear hz0 hzf0 hz1 hzf1 hz2 hzf2 hz3 hzf3 hz4 hzf4 hz5 hzf5 hz6 hzf6 hz7 hzf7 hz8 hzf8
    have HN9 := Aside0.mk (HN7'.out.below HBy10.out)
    have HC9 := Aside0.mk (HC7.out.below HBy10.out)
    have HR9 := Aside0.mk (HR7.out.below HBy10.out)
    have BY9 := Aside0.mk (blk_below BY7.out HBy10.out)
    have BYx9 := Aside0.mk (blk_below BYx7.out HBy10.out)
    obtain ⟨hl0, hl1, hl2, hl3, hl4, hl5, hl6, hl7, hl8⟩ := c9 BY9.out
    obtain ⟨hq0, hq1, hq2, hq3, hq4, hq5, hq6, hq7, hq8⟩ := c9 BYx9.out
    have HX9 : Aside0 (RdL W9 x (.slice A7 n7 c7) (.slice A8 n8 c8)) := ⟨⟨⟨A7, c7, by rw [HN7.out], Kd.C_below HA.out.1 HN9.out.bel, HA.out.2.1⟩, ⟨A8, c8, by rw [HN8.out], Kd.C_below HA.out.2.2.1 HN9.out.bel, HA.out.2.2.2⟩⟩⟩
    go_upto_region 10 with (first | (go_at_call 15; (with_reducible refine (samex_calls HN7.out HN8.out HR9.out.rd HX9.out HBN.out.1 HBN.out.2).mono ?_); rintro e wA ⟨rfl, hb⟩; have HNA := Aside0.mk (HN9.out.below hb); have HCA := Aside0.mk (HC9.out.below hb); have HXA := Aside0.mk (HX9.out.below hb); have BYA := Aside0.mk (blk_below BY9.out hb); have BYxA := Aside0.mk (blk_below BY10.out hb); clear hb hl0 hl1 hl2 hl3 hl4 hl5 hl6 hl7 hl8 hq0 hq1 hq2 hq3 hq4 hq5 hq6 hq7 hq8; obtain ⟨hl0, hl1, hl2, hl3, hl4, hl5, hl6, hl7, hl8⟩ := c9 BYA.out; obtain ⟨hq0, hq1, hq2, hq3, hq4, hq5, hq6, hq7, hq8⟩ := c9 BYxA.out) | (go_at_call 15; (with_reducible refine (samex_calls HN7.out HN8.out HCA.out.rd HXA.out HBN.out.1 HBN.out.2).mono ?_); rintro e wB ⟨rfl, hb⟩; have HNB := Aside0.mk (HNA.out.below hb); clear hb hl0 hl1 hl2 hl3 hl4 hl5 hl6 hl7 hl8 hq0 hq1 hq2 hq3 hq4 hq5 hq6 hq7 hq8))
    obtain ⟨ey, hey⟩ : ∃ ey, ey = ldE s := ⟨_, rfl⟩
    obtain ⟨y, hy⟩ : ∃ y, y = ldX s := ⟨_, rfl⟩
    obtain ⟨y7, hy7⟩ : ∃ y7, y7 = y.f7.length := ⟨_, rfl⟩
    obtain ⟨y8, hy8⟩ : ∃ y8, y8 = y.f8.length := ⟨_, rfl⟩
    have HEY := Aside0.mk hey
    have HY := Aside0.mk hy
    have HY7 := Aside0.mk hy7
    have HY8 := Aside0.mk hy8
    clear hey hy hy7 hy8
    go_upto_region 11 with (first | (go_at_call 20; refine (dec_calls s HS.out HY.out HEY.out HY7.out HY8.out _).mono ?_; rintro e wC ⟨D7, m7, D8, m8, rfl, _, _, hb⟩; have HNC := Aside0.mk (HNB.out.below hb); clear hb) | ((with_reducible refine gate_dst (N := 12) rfl ?_); refine box_event ?hg12 (N := 12) ?hd12 (cs := #[.int .i64 0, .int .i64 0, .int .i64 0, .int .i64 0, .int .i64 0, .int .i64 0, .string (⟨#[]⟩ : ByteArray), .slice none 0 0, .slice none 0 0]) (t := 32) ?hr12 ?_; (case hd12 => rfl); (case hg12 => rfl); (case hr12 => first | (go_simp; done) | (go_simp; rfl)); intro gc hg wD hbox hb; have BX12 := Aside0.mk hbox; have HBx12 := Aside0.mk hb; have GE12 := Aside0.mk (show wC.heap.size ≤ gc from Nat.le_of_eq hg.symm); have GL12 := Aside0.mk (blk_lt hbox); obtain ⟨hz0, hzf0, hz1, hzf1, hz2, hzf2, hz3, hzf3, hz4, hzf4, hz5, hzf5, hz6, hzf6, hz7, hzf7, hz8, hzf8⟩ := c9f hbox; clear hg hbox hb))
    have BY12 : Aside0 ((((((((((wD.setCell ⟨gc, 0, none⟩ (.int .i64 y.f0)).setCell ⟨gc, 1, none⟩ (.int .i64 y.f1)).setCell ⟨gc, 2, none⟩ (.int .i64 y.f2)).setCell ⟨gc, 3, none⟩ (.int .i64 y.f3)).setCell ⟨gc, 4, none⟩ (.int .i64 y.f4)).setCell ⟨gc, 5, none⟩ (.int .i64 y.f5)).setCell ⟨gc, 6, none⟩ (.string y.f6)).setCell ⟨gc, 7, none⟩ (.slice D7 y7 m7)).setCell ⟨gc, 8, none⟩ (.slice D8 y8 m8)).heap[gc]? = some (.cells #[.int .i64 y.f0, .int .i64 y.f1, .int .i64 y.f2, .int .i64 y.f3, .int .i64 y.f4, .int .i64 y.f5, .string y.f6, .slice D7 y7 m7, .slice D8 y8 m8] 32 (0, 0))) := ⟨set9 BX12.out⟩
    have HBy12 : Aside0 (Below wC.heap.size wC (((((((((wD.setCell ⟨gc, 0, none⟩ (.int .i64 y.f0)).setCell ⟨gc, 1, none⟩ (.int .i64 y.f1)).setCell ⟨gc, 2, none⟩ (.int .i64 y.f2)).setCell ⟨gc, 3, none⟩ (.int .i64 y.f3)).setCell ⟨gc, 4, none⟩ (.int .i64 y.f4)).setCell ⟨gc, 5, none⟩ (.int .i64 y.f5)).setCell ⟨gc, 6, none⟩ (.string y.f6)).setCell ⟨gc, 7, none⟩ (.slice D7 y7 m7)).setCell ⟨gc, 8, none⟩ (.slice D8 y8 m8))) := ⟨below9 HBx12.out GE12.out⟩
    have HSy12 : Aside0 (gc < (((((((((wD.setCell ⟨gc, 0, none⟩ (.int .i64 y.f0)).setCell ⟨gc, 1, none⟩ (.int .i64 y.f1)).setCell ⟨gc, 2, none⟩ (.int .i64 y.f2)).setCell ⟨gc, 3, none⟩ (.int .i64 y.f3)).setCell ⟨gc, 4, none⟩ (.int .i64 y.f4)).setCell ⟨gc, 5, none⟩ (.int .i64 y.f5)).setCell ⟨gc, 6, none⟩ (.string y.f6)).setCell ⟨gc, 7, none⟩ (.slice D7 y7 m7)).setCell ⟨gc, 8, none⟩ (.slice D8 y8 m8)).heap.size) := ⟨blk_lt BY12.out⟩
    generalize (((((((((wD.setCell ⟨gc, 0, none⟩ (.int .i64 y.f0)).setCell ⟨gc, 1, none⟩ (.int .i64 y.f1)).setCell ⟨gc, 2, none⟩ (.int .i64 y.f2)).setCell ⟨gc, 3, none⟩ (.int .i64 y.f3)).setCell ⟨gc, 4, none⟩ (.int .i64 y.f4)).setCell ⟨gc, 5, none⟩ (.int .i64 y.f5)).setCell ⟨gc, 6, none⟩ (.string y.f6)).setCell ⟨gc, 7, none⟩ (.slice D7 y7 m7)).setCell ⟨gc, 8, none⟩ (.slice D8 y8 m8) : World) = WD at BY12 HBy12 HSy12 ⊢
    clear hz0 hzf0 hz1 hzf1 hz2 hzf2 hz3 hzf3 hz4 hzf4 hz5 hzf5 hz6 hzf6 hz7 hzf7 hz8 hzf8
    have HND := Aside0.mk (HNC.out.below HBy12.out)
    go_upto_region 12 with (first | (go_at_call 19; refine (inj2_calls HND.out HS.out).mono ?_; rintro e wE ⟨z, z7, z8, E7, k7, E8, k8, L, rfl, hn, hL⟩; rw [← HEY.out] at hL ⊢; have HNE := Aside0.mk hn; have HLL := Aside0.mk hL; clear hn hL) | ((with_reducible refine gate_dst (N := 14) rfl ?_); refine box_event ?hg14 (N := 14) ?hd14 (cs := #[.int .i64 0, .int .i64 0, .int .i64 0, .int .i64 0, .int .i64 0, .int .i64 0, .string (⟨#[]⟩ : ByteArray), .slice none 0 0, .slice none 0 0]) (t := 32) ?hr14 ?_; (case hd14 => rfl); (case hg14 => rfl); (case hr14 => first | (go_simp; done) | (go_simp; rfl)); intro gd hg wF hbox hb; have BX14 := Aside0.mk hbox; have HBx14 := Aside0.mk hb; have GE14 := Aside0.mk (show wE.heap.size ≤ gd from Nat.le_of_eq hg.symm); have GL14 := Aside0.mk (blk_lt hbox); obtain ⟨hz0, hzf0, hz1, hzf1, hz2, hzf2, hz3, hzf3, hz4, hzf4, hz5, hzf5, hz6, hzf6, hz7, hzf7, hz8, hzf8⟩ := c9f hbox; clear hg hbox hb))
    have BY14 : Aside0 ((((((((((wF.setCell ⟨gd, 0, none⟩ (.int .i64 z.f0)).setCell ⟨gd, 1, none⟩ (.int .i64 z.f1)).setCell ⟨gd, 2, none⟩ (.int .i64 z.f2)).setCell ⟨gd, 3, none⟩ (.int .i64 z.f3)).setCell ⟨gd, 4, none⟩ (.int .i64 z.f4)).setCell ⟨gd, 5, none⟩ (.int .i64 z.f5)).setCell ⟨gd, 6, none⟩ (.string z.f6)).setCell ⟨gd, 7, none⟩ (.slice E7 z7 k7)).setCell ⟨gd, 8, none⟩ (.slice E8 z8 k8)).heap[gd]? = some (.cells #[.int .i64 z.f0, .int .i64 z.f1, .int .i64 z.f2, .int .i64 z.f3, .int .i64 z.f4, .int .i64 z.f5, .string z.f6, .slice E7 z7 k7, .slice E8 z8 k8] 32 (0, 0))) := ⟨set9 BX14.out⟩
    have HBy14 : Aside0 (Below wE.heap.size wE (((((((((wF.setCell ⟨gd, 0, none⟩ (.int .i64 z.f0)).setCell ⟨gd, 1, none⟩ (.int .i64 z.f1)).setCell ⟨gd, 2, none⟩ (.int .i64 z.f2)).setCell ⟨gd, 3, none⟩ (.int .i64 z.f3)).setCell ⟨gd, 4, none⟩ (.int .i64 z.f4)).setCell ⟨gd, 5, none⟩ (.int .i64 z.f5)).setCell ⟨gd, 6, none⟩ (.string z.f6)).setCell ⟨gd, 7, none⟩ (.slice E7 z7 k7)).setCell ⟨gd, 8, none⟩ (.slice E8 z8 k8))) := ⟨below9 HBx14.out GE14.out⟩
    have HSy14 : Aside0 (gd < (((((((((wF.setCell ⟨gd, 0, none⟩ (.int .i64 z.f0)).setCell ⟨gd, 1, none⟩ (.int .i64 z.f1)).setCell ⟨gd, 2, none⟩ (.int .i64 z.f2)).setCell ⟨gd, 3, none⟩ (.int .i64 z.f3)).setCell ⟨gd, 4, none⟩ (.int .i64 z.f4)).setCell ⟨gd, 5, none⟩ (.int .i64 z.f5)).setCell ⟨gd, 6, none⟩ (.string z.f6)).setCell ⟨gd, 7, none⟩ (.slice E7 z7 k7)).setCell ⟨gd, 8, none⟩ (.slice E8 z8 k8)).heap.size) := ⟨blk_lt BY14.out⟩
    generalize (((((((((wF.setCell ⟨gd, 0, none⟩ (.int .i64 z.f0)).setCell ⟨gd, 1, none⟩ (.int .i64 z.f1)).setCell ⟨gd, 2, none⟩ (.int .i64 z.f2)).setCell ⟨gd, 3, none⟩ (.int .i64 z.f3)).setCell ⟨gd, 4, none⟩ (.int .i64 z.f4)).setCell ⟨gd, 5, none⟩ (.int .i64 z.f5)).setCell ⟨gd, 6, none⟩ (.string z.f6)).setCell ⟨gd, 7, none⟩ (.slice E7 z7 k7)).setCell ⟨gd, 8, none⟩ (.slice E8 z8 k8) : World) = WF at BY14 HBy14 HSy14 ⊢
    clear hz0 hzf0 hz1 hzf1 hz2 hzf2 hz3 hzf3 hz4 hzf4 hz5 hzf5 hz6 hzf6 hz7 hzf7 hz8 hzf8
    have HNF := Aside0.mk (HNE.out.below HBy14.out)
    have f1 : (ey == ey) = true := beq_self_eq_true ey
    by_cases h0 : ey = 0
    · have HL1 : Aside0 (L.length = 1) := ⟨by rw [HLL.out, if_pos h0]⟩
      have f2 : (ey == 0) = true := beq_iff_eq.2 h0
      go_wp2_with (go_at_call 13; refine (z_len HNF.out).mono ?_; rintro e w8 ⟨rfl, hb⟩; rw [HL1.out]; have HB8 := Aside0.mk (below_step (w := w) HNF.out.bel hb); clear hb)
      go_ret
      exact ⟨rfl, HB8.out⟩
    · have HL1 : Aside0 (L.length = 0) := ⟨by rw [HLL.out, if_neg h0]⟩
      have f2 : (ey == 0) = false := beq_eq_false_iff_ne.2 h0
      go_wp2_with (go_at_call 13; refine (z_len HNF.out).mono ?_; rintro e w8 ⟨rfl, hb⟩; rw [HL1.out]; have HB8 := Aside0.mk (below_step (w := w) HNF.out.bel hb); clear hb)
      go_ret
      exact ⟨rfl, HB8.out⟩
  · have hk0 := enc_no hc
    rw [← HEB.out] at hk0
    have b1 : (eb.2 == 0) = false := beq_eq_false_iff_ne.2 hk0
    go_upto_region 10 with (go_at_call 18; refine (enc_calls HN7.out HN8.out (Kd.C_below HA.out.1 HN3.out.bel) HA.out.2.1 (Kd.C_below HA.out.2.2.1 HN3.out.bel) HA.out.2.2.2 HBN.out.1 HBN.out.2).mono ?_; rintro e w4 ⟨rfl, hb⟩; rw [← HEB.out]; have HNB := Aside0.mk (HN3.out.below hb); clear hb hl0 hl1 hl2 hl3 hl4 hl5 hl6 hl7 hl8)
    obtain ⟨ey, hey⟩ : ∃ ey, ey = ldE s := ⟨_, rfl⟩
    obtain ⟨y, hy⟩ : ∃ y, y = ldX s := ⟨_, rfl⟩
    obtain ⟨y7, hy7⟩ : ∃ y7, y7 = y.f7.length := ⟨_, rfl⟩
    obtain ⟨y8, hy8⟩ : ∃ y8, y8 = y.f8.length := ⟨_, rfl⟩
    have HEY := Aside0.mk hey
    have HY := Aside0.mk hy
    have HY7 := Aside0.mk hy7
    have HY8 := Aside0.mk hy8
    clear hey hy hy7 hy8
    go_upto_region 11 with (first | (go_at_call 20; refine (dec_calls s HS.out HY.out HEY.out HY7.out HY8.out _).mono ?_; rintro e wC ⟨D7, m7, D8, m8, rfl, _, _, hb⟩; have HNC := Aside0.mk (HNB.out.below hb); clear hb) | ((with_reducible refine gate_dst (N := 12) rfl ?_); refine box_event ?hg12 (N := 12) ?hd12 (cs := #[.int .i64 0, .int .i64 0, .int .i64 0, .int .i64 0, .int .i64 0, .int .i64 0, .string (⟨#[]⟩ : ByteArray), .slice none 0 0, .slice none 0 0]) (t := 32) ?hr12 ?_; (case hd12 => rfl); (case hg12 => rfl); (case hr12 => first | (go_simp; done) | (go_simp; rfl)); intro gc hg wD hbox hb; have BX12 := Aside0.mk hbox; have HBx12 := Aside0.mk hb; have GE12 := Aside0.mk (show wC.heap.size ≤ gc from Nat.le_of_eq hg.symm); have GL12 := Aside0.mk (blk_lt hbox); obtain ⟨hz0, hzf0, hz1, hzf1, hz2, hzf2, hz3, hzf3, hz4, hzf4, hz5, hzf5, hz6, hzf6, hz7, hzf7, hz8, hzf8⟩ := c9f hbox; clear hg hbox hb))
    have BY12 : Aside0 ((((((((((wD.setCell ⟨gc, 0, none⟩ (.int .i64 y.f0)).setCell ⟨gc, 1, none⟩ (.int .i64 y.f1)).setCell ⟨gc, 2, none⟩ (.int .i64 y.f2)).setCell ⟨gc, 3, none⟩ (.int .i64 y.f3)).setCell ⟨gc, 4, none⟩ (.int .i64 y.f4)).setCell ⟨gc, 5, none⟩ (.int .i64 y.f5)).setCell ⟨gc, 6, none⟩ (.string y.f6)).setCell ⟨gc, 7, none⟩ (.slice D7 y7 m7)).setCell ⟨gc, 8, none⟩ (.slice D8 y8 m8)).heap[gc]? = some (.cells #[.int .i64 y.f0, .int .i64 y.f1, .int .i64 y.f2, .int .i64 y.f3, .int .i64 y.f4, .int .i64 y.f5, .string y.f6, .slice D7 y7 m7, .slice D8 y8 m8] 32 (0, 0))) := ⟨set9 BX12.out⟩
    have HBy12 : Aside0 (Below wC.heap.size wC (((((((((wD.setCell ⟨gc, 0, none⟩ (.int .i64 y.f0)).setCell ⟨gc, 1, none⟩ (.int .i64 y.f1)).setCell ⟨gc, 2, none⟩ (.int .i64 y.f2)).setCell ⟨gc, 3, none⟩ (.int .i64 y.f3)).setCell ⟨gc, 4, none⟩ (.int .i64 y.f4)).setCell ⟨gc, 5, none⟩ (.int .i64 y.f5)).setCell ⟨gc, 6, none⟩ (.string y.f6)).setCell ⟨gc, 7, none⟩ (.slice D7 y7 m7)).setCell ⟨gc, 8, none⟩ (.slice D8 y8 m8))) := ⟨below9 HBx12.out GE12.out⟩
    have HSy12 : Aside0 (gc < (((((((((wD.setCell ⟨gc, 0, none⟩ (.int .i64 y.f0)).setCell ⟨gc, 1, none⟩ (.int .i64 y.f1)).setCell ⟨gc, 2, none⟩ (.int .i64 y.f2)).setCell ⟨gc, 3, none⟩ (.int .i64 y.f3)).setCell ⟨gc, 4, none⟩ (.int .i64 y.f4)).setCell ⟨gc, 5, none⟩ (.int .i64 y.f5)).setCell ⟨gc, 6, none⟩ (.string y.f6)).setCell ⟨gc, 7, none⟩ (.slice D7 y7 m7)).setCell ⟨gc, 8, none⟩ (.slice D8 y8 m8)).heap.size) := ⟨blk_lt BY12.out⟩
    generalize (((((((((wD.setCell ⟨gc, 0, none⟩ (.int .i64 y.f0)).setCell ⟨gc, 1, none⟩ (.int .i64 y.f1)).setCell ⟨gc, 2, none⟩ (.int .i64 y.f2)).setCell ⟨gc, 3, none⟩ (.int .i64 y.f3)).setCell ⟨gc, 4, none⟩ (.int .i64 y.f4)).setCell ⟨gc, 5, none⟩ (.int .i64 y.f5)).setCell ⟨gc, 6, none⟩ (.string y.f6)).setCell ⟨gc, 7, none⟩ (.slice D7 y7 m7)).setCell ⟨gc, 8, none⟩ (.slice D8 y8 m8) : World) = WD at BY12 HBy12 HSy12 ⊢
    clear hz0 hzf0 hz1 hzf1 hz2 hzf2 hz3 hzf3 hz4 hzf4 hz5 hzf5 hz6 hzf6 hz7 hzf7 hz8 hzf8
    have HND := Aside0.mk (HNC.out.below HBy12.out)
    go_upto_region 12 with (first | (go_at_call 19; refine (inj2_calls HND.out HS.out).mono ?_; rintro e wE ⟨z, z7, z8, E7, k7, E8, k8, L, rfl, hn, hL⟩; rw [← HEY.out] at hL ⊢; have HNE := Aside0.mk hn; have HLL := Aside0.mk hL; clear hn hL) | ((with_reducible refine gate_dst (N := 14) rfl ?_); refine box_event ?hg14 (N := 14) ?hd14 (cs := #[.int .i64 0, .int .i64 0, .int .i64 0, .int .i64 0, .int .i64 0, .int .i64 0, .string (⟨#[]⟩ : ByteArray), .slice none 0 0, .slice none 0 0]) (t := 32) ?hr14 ?_; (case hd14 => rfl); (case hg14 => rfl); (case hr14 => first | (go_simp; done) | (go_simp; rfl)); intro gd hg wF hbox hb; have BX14 := Aside0.mk hbox; have HBx14 := Aside0.mk hb; have GE14 := Aside0.mk (show wE.heap.size ≤ gd from Nat.le_of_eq hg.symm); have GL14 := Aside0.mk (blk_lt hbox); obtain ⟨hz0, hzf0, hz1, hzf1, hz2, hzf2, hz3, hzf3, hz4, hzf4, hz5, hzf5, hz6, hzf6, hz7, hzf7, hz8, hzf8⟩ := c9f hbox; clear hg hbox hb))
    have BY14 : Aside0 ((((((((((wF.setCell ⟨gd, 0, none⟩ (.int .i64 z.f0)).setCell ⟨gd, 1, none⟩ (.int .i64 z.f1)).setCell ⟨gd, 2, none⟩ (.int .i64 z.f2)).setCell ⟨gd, 3, none⟩ (.int .i64 z.f3)).setCell ⟨gd, 4, none⟩ (.int .i64 z.f4)).setCell ⟨gd, 5, none⟩ (.int .i64 z.f5)).setCell ⟨gd, 6, none⟩ (.string z.f6)).setCell ⟨gd, 7, none⟩ (.slice E7 z7 k7)).setCell ⟨gd, 8, none⟩ (.slice E8 z8 k8)).heap[gd]? = some (.cells #[.int .i64 z.f0, .int .i64 z.f1, .int .i64 z.f2, .int .i64 z.f3, .int .i64 z.f4, .int .i64 z.f5, .string z.f6, .slice E7 z7 k7, .slice E8 z8 k8] 32 (0, 0))) := ⟨set9 BX14.out⟩
    have HBy14 : Aside0 (Below wE.heap.size wE (((((((((wF.setCell ⟨gd, 0, none⟩ (.int .i64 z.f0)).setCell ⟨gd, 1, none⟩ (.int .i64 z.f1)).setCell ⟨gd, 2, none⟩ (.int .i64 z.f2)).setCell ⟨gd, 3, none⟩ (.int .i64 z.f3)).setCell ⟨gd, 4, none⟩ (.int .i64 z.f4)).setCell ⟨gd, 5, none⟩ (.int .i64 z.f5)).setCell ⟨gd, 6, none⟩ (.string z.f6)).setCell ⟨gd, 7, none⟩ (.slice E7 z7 k7)).setCell ⟨gd, 8, none⟩ (.slice E8 z8 k8))) := ⟨below9 HBx14.out GE14.out⟩
    have HSy14 : Aside0 (gd < (((((((((wF.setCell ⟨gd, 0, none⟩ (.int .i64 z.f0)).setCell ⟨gd, 1, none⟩ (.int .i64 z.f1)).setCell ⟨gd, 2, none⟩ (.int .i64 z.f2)).setCell ⟨gd, 3, none⟩ (.int .i64 z.f3)).setCell ⟨gd, 4, none⟩ (.int .i64 z.f4)).setCell ⟨gd, 5, none⟩ (.int .i64 z.f5)).setCell ⟨gd, 6, none⟩ (.string z.f6)).setCell ⟨gd, 7, none⟩ (.slice E7 z7 k7)).setCell ⟨gd, 8, none⟩ (.slice E8 z8 k8)).heap.size) := ⟨blk_lt BY14.out⟩
    generalize (((((((((wF.setCell ⟨gd, 0, none⟩ (.int .i64 z.f0)).setCell ⟨gd, 1, none⟩ (.int .i64 z.f1)).setCell ⟨gd, 2, none⟩ (.int .i64 z.f2)).setCell ⟨gd, 3, none⟩ (.int .i64 z.f3)).setCell ⟨gd, 4, none⟩ (.int .i64 z.f4)).setCell ⟨gd, 5, none⟩ (.int .i64 z.f5)).setCell ⟨gd, 6, none⟩ (.string z.f6)).setCell ⟨gd, 7, none⟩ (.slice E7 z7 k7)).setCell ⟨gd, 8, none⟩ (.slice E8 z8 k8) : World) = WF at BY14 HBy14 HSy14 ⊢
    clear hz0 hzf0 hz1 hzf1 hz2 hzf2 hz3 hzf3 hz4 hzf4 hz5 hzf5 hz6 hzf6 hz7 hzf7 hz8 hzf8
    have HNF := Aside0.mk (HNE.out.below HBy14.out)
    have f1 : (ey == ey) = true := beq_self_eq_true ey
    by_cases h0 : ey = 0
    · have HL1 : Aside0 (L.length = 1) := ⟨by rw [HLL.out, if_pos h0]⟩
      have f2 : (ey == 0) = true := beq_iff_eq.2 h0
      go_wp2_with (go_at_call 13; refine (z_len HNF.out).mono ?_; rintro e w8 ⟨rfl, hb⟩; rw [HL1.out]; have HB8 := Aside0.mk (below_step (w := w) HNF.out.bel hb); clear hb)
      go_ret
      exact ⟨rfl, HB8.out⟩
    · have HL1 : Aside0 (L.length = 0) := ⟨by rw [HLL.out, if_neg h0]⟩
      have f2 : (ey == 0) = false := beq_eq_false_iff_ne.2 h0
      go_wp2_with (go_at_call 13; refine (z_len HNF.out).mono ?_; rintro e w8 ⟨rfl, hb⟩; rw [HL1.out]; have HB8 := Aside0.mk (below_step (w := w) HNF.out.bel hb); clear hb)
      go_ret
      exact ⟨rfl, HB8.out⟩
theorem corncriblaw15_NetBytes.calls (a0_0 : Int) (a0_1 : Int) (a0_2 : Int) (a0_3 : Int) (a0_4 : Int) (a0_5 : Int) (a0_6 : ByteArray) (A0_7 : Option Addr) (c0_7 : Nat) (l0_7 : List ByteArray) (A0_8 : Option Addr) (c0_8 : Nat) (l0_8 : List (S72)) (a1 : ByteArray) (r : Bool) (w : World) (hr0_7 : Kd.C Kd.string w A0_7 l0_7.length l0_7) (hc0_7 : l0_7.length ≤ c0_7) (hr0_8 : Kd.C k72 w A0_8 l0_8.length l0_8) (hc0_8 : l0_8.length ≤ c0_8) (h : corncriblaw15_NetBytes.f a0_0 a0_1 a0_2 a0_3 a0_4 a0_5 a0_6 l0_7 l0_8 a1 = some r) (hr_ : r = true) :
    Calls Try.prog 6 #[.agg #[.int .i64 a0_0, .int .i64 a0_1, .int .i64 a0_2, .int .i64 a0_3, .int .i64 a0_4, .int .i64 a0_5, .string a0_6, .slice A0_7 l0_7.length c0_7, .slice A0_8 l0_8.length c0_8], .string a1] w fun e w' => e = .returned (.bool r) ∧ Below w.heap.size w w' := by
  subst hr_
  unfold corncriblaw15_NetBytes.f at h
  split at h
  · rename_i hh
    exact netbytes_ok ⟨a0_0, a0_1, a0_2, a0_3, a0_4, a0_5, a0_6, l0_7, l0_8⟩ l0_7.length l0_8.length A0_7 c0_7 A0_8 c0_8 a1 w rfl rfl hr0_7 hc0_7 hr0_8 hc0_8 hh.1 hh.2.1 hh.2.2
  · cases h
end Go.Proofs.Ytnbomedhehoflaa.Al
