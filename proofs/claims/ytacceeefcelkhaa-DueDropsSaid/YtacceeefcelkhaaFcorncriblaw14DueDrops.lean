/- The walk of DueDrops. -/
import Derived.Test.YtacceeefcelkhaaPbb
namespace Go.Proofs.Ytacceeefcelkhaa.Al
open Go.RowKit Go.Proofs.Ytacceeefcelkhaa.DueHeap Go.Proofs.Ytacceeefcelkhaa.DueSpec Go.Proofs.YtacceeefcelkhaaW.PrintWords Go.Proofs.YtacceeefcelkhaaW.PrintLast Go.Proofs.YtacceeefcelkhaaW.PrintMore
set_option linter.unusedVariables false
set_option linter.unusedSimpArgs false
structure S29 where
  f0 : Int
  f1 : Int
def z29 : S29 := ⟨0, 0⟩
def k29 : Kd S29 := Kd.iso (Kd.pair (Kd.int .i64) (Kd.int .i64)) (fun x : S29 => (x.f0, x.f1))
theorem k29_open {w : World} {x : S29} {cs : List Value} (h : k29.K w x cs) : cs = [.int .i64 x.f0, .int .i64 x.f1] := by
  obtain ⟨_, _, rfl, rfl, rfl⟩ := h
  exact rfl
def rd_T29 (xs : List S29) (i : Nat) : S29 := xs.getD i z29
theorem at_T29 {w : World} {A : Option Addr} {n : Nat} {xs : List S29} (h : Kd.C k29 w A n xs) (i : Nat) (h1 : i < n) : ∃ ad , A = some ad ∧ w.cell? (ad.add (i * 2)) = some (.int .i64 (rd_T29 xs i).f0) ∧ w.cell? ⟨(ad.add (i * 2)).block, (ad.add (i * 2)).off + 1, none⟩ = some (.int .i64 (rd_T29 xs i).f1) := by
  obtain ⟨ad, c, e, _, hK, hc0⟩ := Kd.C_get h z29 (i : Int) (by omega) (by omega)
  rw [Int.toNat_natCast] at hK hc0
  have hc : ∀ j u, c[j]? = some u → w.cell? (ad.add (i * 2 + j)) = some u := hc0
  obtain rfl := k29_open hK
  exact ⟨ad, e, hc 0 _ rfl, by rw [← add_field _ _ 1 (by omega)]; exact hc 1 _ rfl⟩
def corncriblaw14_DueDrops.f (l0 : List S29) (a1 : Int) : Option Bool := some true
def atS (l : List S29) (j : Nat) : Int := (rd_T29 l j).f0 % 1000
def urS (l : List S29) (j : Nat) : Int := (rd_T29 l j).f1
set_option maxHeartbeats 8000000 in
set_option maxRecDepth 100000 in
theorem drops_walk (A0 : Option Addr) (c0 : Nat) (l0 : List S29) (a1 : Int) (w : World) (hr0 : Kd.C k29 w A0 l0.length l0) : Calls Try.prog 4 #[.slice A0 l0.length c0, .int .i64 a1] w fun e w' => e = .returned (.bool true) ∧ Below w.heap.size w w' := by
  have hu29 := Try.underlying29
  have HR0 := Aside0.mk hr0
  clear hr0
  obtain ⟨n, hn⟩ : ∃ n, n = l0.length := ⟨_, rfl⟩
  rw [← hn] at HR0 ⊢
  have HN := Aside0.mk hn
  clear hn
  by_cases hz : n = 0
  · have e1 : ((n : Int) == 0) = true := by rw [hz]; rfl
    clear hz
    go_enter Try.func4, Try.ntmps4
    go_wp2_with (first | (go_at_call 7; (with_reducible refine (z_new w w (Below.refl _ _)).mono ?_); rintro e w1 ⟨ga, rfl, hq, hb⟩; have HQ1 := Aside0.mk hq; clear hq hb) | (go_at_call 7; (with_reducible refine (two_new HQ1.out).mono ?_); rintro e w2 ⟨gb, rfl, hq⟩; have HQ2 := Aside0.mk hq; clear hq) | (go_at_call 8; refine (works_calls _).mono ?_; rintro e w3 ⟨rfl, hb⟩; have HQ3 := Aside0.mk (HQ2.out.below hb); clear hb))
    go_ret
    exact ⟨rfl, HQ3.out.bel⟩
  · have e1 : ((n : Int) == 0) = false := by rw [beq_eq_false_iff_ne]; omega
    by_cases hb : 100 < n
    · have e2 : decide (100 < (n : Int)) = true := decide_eq_true (by omega)
      have e2' : decide (100 < n) = true := decide_eq_true hb
      clear hz hb
      go_enter Try.func4, Try.ntmps4
      go_wp2_with (first | (go_at_call 7; (with_reducible refine (z_new w w (Below.refl _ _)).mono ?_); rintro e w1 ⟨ga, rfl, hq, hb⟩; have HQ1 := Aside0.mk hq; clear hq hb) | (go_at_call 7; (with_reducible refine (two_new HQ1.out).mono ?_); rintro e w2 ⟨gb, rfl, hq⟩; have HQ2 := Aside0.mk hq; clear hq) | (go_at_call 8; refine (works_calls _).mono ?_; rintro e w3 ⟨rfl, hb⟩; have HQ3 := Aside0.mk (HQ2.out.below hb); clear hb))
      go_ret
      exact ⟨rfl, HQ3.out.bel⟩
    · have e2 : decide (100 < (n : Int)) = false := decide_eq_false (by omega)
      have e2' : decide (100 < n) = false := decide_eq_false hb
      obtain ⟨k, hk⟩ : ∃ k : Nat, (k : Int) = a1 % (n : Int) := ⟨(a1 % (n : Int)).toNat, by have := Int.emod_nonneg a1 (show (n : Int) ≠ 0 by omega); omega⟩
      have hkn : k < n := by have := Int.emod_lt_of_pos a1 (show 0 < (n : Int) by omega); omega
      have HK := Aside0.mk hk
      have HKN := Aside0.mk hkn
      have hn100 : n ≤ 100 := by omega
      have HNP := Aside0.mk (show 0 < (n : Int) ∧ (n : Int) ≤ 4611686018427387904 by omega)
      clear hz hb hk
      have t0' : ∀ j, 0 ≤ atS l0 j := fun j => by unfold atS; omega
      have t1' : ∀ j, atS l0 j < 1000 := fun j => by unfold atS; omega
      have T0 := Aside0.mk t0'
      have T1 := Aside0.mk t1'
      clear t0' t1'
      go_enter Try.func4, Try.ntmps4
      go_wp2_with (first | (go_at_call 7; (with_reducible refine (z_new w w (Below.refl _ _)).mono ?_); rintro e w1 ⟨ga, rfl, hq, hb⟩; have HQ1 := Aside0.mk hq; clear hq hb) | (go_at_call 7; (with_reducible refine (two_new HQ1.out).mono ?_); rintro e w2 ⟨gb, rfl, hq⟩; have HQ2 := Aside0.mk hq; clear hq) | (go_at_call 8; refine (works_calls _).mono ?_; rintro e w3 ⟨rfl, hb⟩; have HQ3 := Aside0.mk (HQ2.out.below hb); clear hb) | (go_at_call 9; refine (amongq_calls a1 (n : Int) HNP.out.1 HNP.out.2 _).mono ?_; rintro e w4 ⟨rfl, hb⟩; rw [← HK.out]; have HQ4 := Aside0.mk (HQ3.out.below hb); clear hb))
      go_loopw [8, 46] (fun v8 v46 wr => ∃ i : Nat, v46 = .int .i64 i ∧ i ≤ n ∧ v8 = .int .i64 (if k < i then (k : Int) + 1 else 0) ∧ Aside0 (Q2 w wr ga gb i i (qA (atS l0) (urS l0) i) (qB (atS l0) (urS l0) k i))) (fun _ v46 _ => n - (intOf v46).toNat)
      case atStart => exact ⟨0, rfl, Nat.zero_le _, by rw [if_neg (Nat.not_lt_zero _)], ⟨by rw [startB T0.out T1.out]; exact HQ4.out⟩⟩
      case round =>
        obtain ⟨i, rfl, hi, rfl, HQ⟩ := hrel
        clear HQ1 HQ2 HQ3 HQ4
        by_cases hlt : i < n
        · have b1 : decide ((i : Int) < (n : Int)) = true := decide_eq_true (by omega)
          have b2 : decide (i < n) = true := decide_eq_true hlt
          obtain ⟨ad, eA, hx0, hx1⟩ := at_T29 (Kd.C_below HR0.out HQ.out.bel) i hlt
          have HI := Aside0.mk hlt
          subst eA
          obtain ⟨x, hx⟩ : ∃ x, x = rd_T29 l0 i := ⟨_, rfl⟩
          rw [← hx] at hx0 hx1
          have HAT : Aside0 (atS l0 i = x.f0 % 1000) := ⟨by rw [hx]; rfl⟩
          have HUR : Aside0 (urS l0 i = x.f1) := ⟨by rw [hx]; rfl⟩
          clear hx
          go_upto_region 11 with ((with_reducible refine gate_dst (N := 10) rfl ?_); refine box_event ?hg (N := 10) ?hd (cs := #[.int .i64 0, .int .i64 0]) (t := 29) ?hr ?_; (case hd => rfl); (case hg => rfl); (case hr => first | (go_simp; done) | (go_simp; rfl)); intro gx hgx wb hbox hb; have BX := Aside0.mk hbox; have HGE := Aside0.mk (show wr.heap.size ≤ gx from Nat.le_of_eq hgx.symm); have HBb := Aside0.mk hb; have hz0 := (blk_cell hbox 0).trans rfl; have hzf0 := blk_frozen hbox 0; have hz1 := (blk_cell hbox 1).trans rfl; have hzf1 := blk_frozen hbox 1; clear hgx hbox hb)
          have HB3 : Aside0 (Below wr.heap.size wr ((wb.setCell ⟨gx, 0, none⟩ (.int .i64 x.f0)).setCell ⟨gx, 1, none⟩ (.int .i64 x.f1))) := ⟨below_set (below_set HBb.out HGE.out) HGE.out⟩
          have BX3 : Aside0 ((((wb.setCell ⟨gx, 0, none⟩ (.int .i64 x.f0)).setCell ⟨gx, 1, none⟩ (.int .i64 x.f1)) : World).heap[gx]? = some (.cells #[.int .i64 x.f0, .int .i64 x.f1] 29 (0, 0))) := ⟨by
            have := blk_set (blk_set BX.out 0 (.int .i64 x.f0)) 1 (.int .i64 x.f1)
            simpa using this⟩
          clear hz0 hzf0 hz1 hzf1 hx0 hx1
          generalize ((wb.setCell ⟨gx, 0, none⟩ (.int .i64 x.f0)).setCell ⟨gx, 1, none⟩ (.int .i64 x.f1)) = W3 at HB3 BX3 ⊢
          have HQ5 := Aside0.mk (HQ.out.below HB3.out)
          have y0 : W3.cell? ⟨gx, 0, none⟩ = some (.int .i64 x.f0) := (blk_cell BX3.out 0).trans rfl
          by_cases hik : i = k
          · have e3 : ((i : Int) == (k : Int)) = true := beq_iff_eq.2 (by omega)
            have HIK := Aside0.mk hik
            clear hik
            go_wp2_with (first | (go_at_call 9; refine (amongq_calls x.f0 1000 (by decide) (by decide) _).mono ?_; rintro e w6 ⟨rfl, hb⟩; rw [← HAT.out]; have HQ6 := Aside0.mk (HQ5.out.below hb); have BX6 := Aside0.mk (blk_below BX3.out hb); have y1 : w6.cell? ⟨gx, 1, none⟩ = some (.int .i64 x.f1) := (blk_cell BX6.out 1).trans rfl; clear hb y0) | (go_at_call 10; (with_reducible refine (two_put HQ6.out (by have := HI.out; omega) (atS l0 i) x.f1 i).mono ?_); rintro e w7 ⟨rfl, hq, hs⟩; rw [← HUR.out, dropA T0.out T1.out (show i < 100 by have := HI.out; omega)] at hq ⊢; have HQ7 := Aside0.mk hq; clear hq hs y1))
            go_roundw
            case rel =>
              refine ⟨i + 1, by go_num, HI.out, by rw [if_pos (by have := HIK.out; omega), HIK.out], ⟨?_⟩⟩
              have h7 := HQ7.out
              have e4 : qB (atS l0) (urS l0) k (i + 1) = qB (atS l0) (urS l0) k i := by rw [HIK.out]; exact skipB T0.out T1.out
              rw [e4]
              exact ⟨h7.oa, h7.ob.mono (Nat.le_succ i), h7.ex⟩
            case measure => have := HI.out; simp [intOf]; omega
          · have e3 : ((i : Int) == (k : Int)) = false := by rw [beq_eq_false_iff_ne]; omega
            obtain ⟨z, hz⟩ := dropB (urg := urS l0) T0.out T1.out (show i < 100 by omega) hik
            have HZ := Aside0.mk hz
            have HIK := Aside0.mk hik
            clear hik hz
            go_wp2_with (first | (go_at_call 9; refine (amongq_calls x.f0 1000 (by decide) (by decide) _).mono ?_; rintro e w6 ⟨rfl, hb⟩; rw [← HAT.out]; have HQ6 := Aside0.mk (HQ5.out.below hb); have BX6 := Aside0.mk (blk_below BX3.out hb); have y1 : w6.cell? ⟨gx, 1, none⟩ = some (.int .i64 x.f1) := (blk_cell BX6.out 1).trans rfl; clear hb y0) | (go_at_call 10; (with_reducible refine (two_put HQ6.out (by have := HI.out; omega) (atS l0 i) x.f1 i).mono ?_); rintro e w7 ⟨rfl, hq, hs⟩; rw [← HUR.out, dropA T0.out T1.out (show i < 100 by have := HI.out; omega)] at hq ⊢; have HQ7 := Aside0.mk hq; have y1 : w7.cell? ⟨gx, 1, none⟩ = some (.int .i64 x.f1) := (blk_cell (hs _ _ BX6.out) 1).trans rfl; clear hq hs) | (go_at_call 10; (with_reducible refine (two_put HQ7.out.swap (by have := HI.out; omega) (atS l0 i) x.f1 i).mono ?_); rintro e w8 ⟨rfl, hq, hs⟩; rw [← HUR.out, HZ.out] at hq ⊢; have HQ8 := Aside0.mk hq; clear hq hs))
            go_roundw
            case rel =>
              refine ⟨i + 1, by go_num, HI.out, ?_, ⟨HQ8.out.swap⟩⟩
              have := HIK.out
              by_cases hki : k < i
              · rw [if_pos hki, if_pos (by omega)]
              · rw [if_neg hki, if_neg (by omega)]
            case measure => have := HI.out; simp [intOf]; omega
        · obtain rfl : i = n := by omega
          have b1 : decide ((i : Int) < (i : Int)) = false := decide_eq_false (by omega)
          have e5 : (if k < i then (k : Int) + 1 else 0) = (k : Int) + 1 := if_pos HKN.out
          rw [e5]
          clear e5 hlt hi
          go_wp2_with (first | (go_at_call 15; (with_reducible refine (two_drop HQ.out ((k : Int) + 1)).mono ?_); rintro e w6 ⟨rfl, hq⟩; rw [dropped T0.out T1.out HQ.out.oa HKN.out] at hq ⊢; have HQ6 := Aside0.mk hq; clear hq) | (go_at_call 15; (with_reducible refine (two_drop HQ6.out ((k : Int) + 1)).mono ?_); rintro e w7 ⟨rfl, hq⟩; rw [again T0.out T1.out] at hq ⊢; have HQ7 := Aside0.mk hq; clear hq) | (go_at_call 12; (with_reducible refine (two_go HQ7.out 1000).mono ?_); rintro e w8 ⟨rfl, hq⟩; rw [goA T0.out T1.out] at hq ⊢; have HQ8 := Aside0.mk hq; clear hq) | (go_at_call 12; (with_reducible refine (two_go HQ8.out.swap 1000).mono ?_); rintro e w9 ⟨rfl, hq⟩; rw [goB T0.out T1.out] at hq ⊢; have HQ9 := Aside0.mk hq.swap; clear hq))
          have HP := Aside0.mk (pair_start (urg := urS l0) T1.out HKN.out (qB (atS l0) (urS l0) k i).put)
          go_loopw [103] (fun v103 wr => ∃ (j : Nat) (qa qb : Qs), v103 = .int .i64 j ∧ j ≤ i ∧ Aside0 (Q2 w wr ga gb i i qa qb) ∧ Aside0 (Pair k (i - j) qa qb)) (fun v103 _ => i - (intOf v103).toNat)
          case atStart => exact ⟨0, _, _, rfl, Nat.zero_le _, HQ9, HP⟩
          case round =>
            obtain ⟨j, qa, qb, rfl, hj, HQj, HPj⟩ := hrel
            clear HQ9 HP HQ8 HQ7 HQ6 HQ
            by_cases hji : j < i
            · have b3 : decide ((j : Int) < (i : Int)) = true := decide_eq_true (by omega)
              have HJ := Aside0.mk hji
              have hpj := HPj.out
              rw [show i - j = (i - (j + 1)) + 1 by omega] at hpj
              obtain ⟨qa', qb', x, ok, ta, tb, hne, HP'⟩ := hpj.take HQj.out.oa HQj.out.ob
              have HTA := Aside0.mk ta
              have HTB := Aside0.mk tb
              have HP'' := Aside0.mk HP'
              clear hpj ta tb HP'
              cases ok with
              | true =>
                have e6 : (x == (k : Int)) = false := beq_eq_false_iff_ne.2 (hne rfl)
                clear hne
                go_wp2_with (first | (go_at_call 13; (with_reducible refine (two_take HQj.out).mono ?_); rintro e w6 ⟨rfl, hq⟩; rw [HTA.out] at hq ⊢; have HQ6 := Aside0.mk hq; clear hq) | (go_at_call 13; (with_reducible refine (two_take HQ6.out.swap).mono ?_); rintro e w7 ⟨rfl, hq⟩; rw [HTB.out] at hq ⊢; have HQ7 := Aside0.mk hq.swap; clear hq))
                go_roundw
                case rel => exact ⟨j + 1, qa', qb', by go_num, HJ.out, HQ7, HP''⟩
                case measure => have := HJ.out; simp [intOf]; omega
              | false =>
                clear hne
                go_wp2_with (first | (go_at_call 13; (with_reducible refine (two_take HQj.out).mono ?_); rintro e w6 ⟨rfl, hq⟩; rw [HTA.out] at hq ⊢; have HQ6 := Aside0.mk hq; clear hq) | (go_at_call 13; (with_reducible refine (two_take HQ6.out.swap).mono ?_); rintro e w7 ⟨rfl, hq⟩; rw [HTB.out] at hq ⊢; have HQ7 := Aside0.mk hq.swap; clear hq))
                go_roundw
                case rel => exact ⟨j + 1, qa', qb', by go_num, HJ.out, HQ7, HP''⟩
                case measure => have := HJ.out; simp [intOf]; omega
            · obtain rfl : j = i := by omega
              have b3 : decide ((j : Int) < (j : Int)) = false := decide_eq_false (by omega)
              have hla : qa.L.length = 0 := by have := HPj.out.len; omega
              have hlb : qb.L.length = 0 := by rw [← HPj.out.like.1]; exact hla
              have HLA := Aside0.mk hla
              have HLB := Aside0.mk hlb
              clear hla hlb
              go_wp2_with (first | (go_at_call 14; (with_reducible refine (two_len HQj.out).mono ?_); rintro e w6 ⟨rfl, hq⟩; rw [HLA.out]; have HQ6 := Aside0.mk hq; clear hq) | (go_at_call 14; (with_reducible refine (two_len HQ6.out.swap).mono ?_); rintro e w7 ⟨rfl, hq⟩; rw [HLB.out]; have HQ7 := Aside0.mk hq; clear hq))
              go_ret
              exact ⟨rfl, HQ7.out.bel⟩
theorem corncriblaw14_DueDrops.calls (A0 : Option Addr) (c0 : Nat) (l0 : List S29) (a1 : Int) (r : Bool) (w : World) (hr0 : Kd.C k29 w A0 l0.length l0) (hc0 : l0.length ≤ c0) (h : corncriblaw14_DueDrops.f l0 a1 = some r) (hr_ : r = true) :
    Calls Try.prog 4 #[.slice A0 l0.length c0, .int .i64 a1] w fun e w' => e = .returned (.bool r) ∧ Below w.heap.size w w' := by
  subst hr_
  exact drops_walk A0 c0 l0 a1 w hr0
end Go.Proofs.Ytacceeefcelkhaa.Al
