/- The walk of SumTurned over the contracts of Frame, Next and Among: bits of a frame are turned in a block of bytes of its own. -/
import Derived.Test.YtdajpglkggmpoaaSumBurst
import Derived.Test.YtdajpglkggmpoaaFcorncribbookAmong
import Derived.Test.YtdajpglkggmpoaaFcorncriblaw05works
import Derived.Test.YtdajpglkggmpoaaFsumFrame
import Derived.Test.YtdajpglkggmpoaaFsumNext
import Derived.Deep.RegionLaw
namespace Go.Proofs.Ytdajpglkggmpoaa.Al
open Go.RowKit Go.Proofs.Ytdajpglkggmpoaa.Base Go.Proofs.Ytdajpglkggmpoaa.SumMath Go.Proofs.Ytdajpglkggmpoaa.SumFns Go.Proofs.Ytdajpglkggmpoaa.Bytes Go.Proofs.YtdajpglkggmpoaaW.PrintWords Go.Proofs.YtdajpglkggmpoaaW.PrintLast Go.Proofs.YtdajpglkggmpoaaW.PrintMore
set_option linter.unusedVariables false
set_option linter.unusedSimpArgs false
theorem frame_ok (t : ByteArray) (h : t.size ≤ 4096) : Ev (fun k => sum_Frame.f k t) (frameB t, 0) := by
  unfold sum_Frame.f
  exact Ev.neg (by omega) (Ev.bind (frame_ev t (by omega)) (Ev.now _))
theorem frame_long (t : ByteArray) (h : 4096 < t.size) : Ev (fun k => sum_Frame.f k t) ((⟨#[]⟩ : ByteArray), 2) := by
  unfold sum_Frame.f
  exact Ev.pos (by omega) (Ev.now _)
theorem works_calls (w : World) : Calls Try.prog 10 #[] w fun e w' => e = .returned (.bool true) ∧ Below w.heap.size w w' := by
  obtain ⟨k, hk⟩ := Ev.rounds works_ev
  exact corncriblaw05_works.calls k true w hk
def corncriblaw05_SumTurned.f (a0 : ByteArray) (a1 : Int) (a2 : Int) : Option Bool := if a0.size ≤ 140737488351232 then some true else none
theorem turn_bit32 (P k : Nat) : (Go.bits .and .u32 ((P : Int) / 2 ^ k) 1 == 1) = Nat.testBit P k := by
  have e : ((P : Int) / 2 ^ k) = ((P / 2 ^ k : Nat) : Int) := by simp
  rw [e, Nat.testBit_eq_decide_div_mod_eq]
  generalize P / 2 ^ k = x
  have h1 : Go.bits .and .u32 (x : Int) 1 = ((x % 2 : Nat) : Int) := by
    show IntKind.u32.wrap ((BitVec.ofInt 32 (x : Int) &&& BitVec.ofInt 32 ((1 : Nat) : Int)).toNat : Int) = _
    rw [BitVec.toNat_and, BitVec.ofInt_natCast, BitVec.ofInt_natCast, BitVec.toNat_ofNat, BitVec.toNat_ofNat]
    rw [show (1 % 2 ^ 32 : Nat) = 1 from rfl, Nat.and_one_is_mod]
    unfold IntKind.wrap
    simp [IntKind.signed, IntKind.bits]
    omega
  rw [h1, Bool.eq_iff_iff]
  simp
  omega
theorem wrap_pow8 (n : Nat) : IntKind.u8.wrap ((2 : Int) ^ (n % 8)) = ((2 ^ (n % 8) : Nat) : Int) := by
  have hp := pow_lt8 n
  have e : ((2 : Int) ^ (n % 8)) = ((2 ^ (n % 8) : Nat) : Int) := by simp
  rw [e]
  generalize 2 ^ (n % 8) = x at hp
  unfold IntKind.wrap
  simp only [IntKind.signed, IntKind.bits]
  simp
  omega
theorem turn_list (t : ByteArray) (P first : Nat) : strOfNums (listOf (frameB t).size (turnF P first (frameB t).size (fun j => bt (frameB t) j) 32)) = turned t P first := rfl
set_option maxHeartbeats 8000000 in
set_option maxRecDepth 100000 in
theorem turned_core (t : ByteArray) (i b : Int) (w : World) (ht : t.size ≤ 140737488351232) :
    Calls Try.prog 7 #[.string t, .int .i64 i, .int .i64 b] w fun e w' => e = .returned (.bool true) ∧ Below w.heap.size w w' := by
  by_cases hlong : 4096 < t.size
  · obtain ⟨k, hk⟩ := Ev.rounds (frame_long t hlong)
    have HK := Aside0.mk hk
    have c1 : decide ((4096 : Int) < (t.size : Int)) = true := decide_eq_true (by omega)
    have c2 : decide (4096 < t.size) = true := decide_eq_true hlong
    clear hk hlong ht
    go_enter Try.func7, Try.ntmps7
    go_wp2_with (first | (go_at_call 10; refine (works_calls _).mono ?_; rintro e w1 ⟨rfl, hb⟩; have HB := Aside0.mk hb; clear hb) | (go_at_call 13; refine (sum_Frame.calls k t _ _ _ HK.out).mono ?_; rintro e w2 ⟨rfl, hb⟩; have HB2 := Aside0.mk (below_step HB.out hb); clear hb))
    go_ret
    exact ⟨rfl, HB2.out⟩
  · obtain ⟨k, hk⟩ := Ev.rounds (frame_ok t (by omega))
    have HK := Aside0.mk hk
    have hz := frameB_size t
    obtain ⟨m, hm, hm0, hm1⟩ : ∃ m, corncribbook_Among.f i (8 * (((frameB t).size : Int) - 2)) = some m ∧ 0 ≤ m ∧ m < 8 * (((frameB t).size : Int) - 2) := ⟨_, among_eq i _ (by omega) (by omega), Int.emod_nonneg _ (by omega), Int.emod_lt_of_pos _ (by omega)⟩
    obtain ⟨m, rfl⟩ := Int.eq_ofNat_of_zero_le hm0
    have HM := Aside0.mk hm
    have HZ := Aside0.mk hz
    have hn1 : 6 ≤ (frameB t).size := by omega
    have hn2 : (frameB t).size ≤ 4102 := by omega
    have hm2 : m + 16 < 8 * (frameB t).size := by omega
    have HT4 := Aside0.mk (show t.size ≤ 4096 by omega)
    obtain ⟨P, hP, hP2⟩ : ∃ P : Nat, (if IntKind.u32.wrap b = 0 then 1 else IntKind.u32.wrap b) = (P : Int) ∧ P < 4294967296 := by
      have e : IntKind.u32.wrap b = b % 4294967296 := by unfold IntKind.wrap; simp [IntKind.signed, IntKind.bits]
      rw [e]
      by_cases h0 : b % 4294967296 = 0
      · exact ⟨1, by rw [if_pos h0]; rfl, by omega⟩
      · exact ⟨(b % 4294967296).toNat, by rw [if_neg h0]; omega, by omega⟩
    have hcv := fun W : World => print_bytes (P := Try.prog) 9 24 5 Try.underlying9 Try.underlying24 Try.underlying5 (frameB t) W
    generalize hf : frameB t = f at hk HK hm HM hn1 hn2 hm2 hcv HZ hz hm1
    have HF := Aside0.mk hf
    clear hk hlong ht hz hm hm0 hm1 hf
    by_cases hp0 : IntKind.u32.wrap b = 0
    · rw [if_pos hp0] at hP
      obtain rfl : P = 1 := by omega
      clear hP
      have hpb : (IntKind.u32.wrap b == 0) = true := by simpa using hp0
      go_enter Try.func7, Try.ntmps7
      go_wp2_with (first | (go_at_call 10; refine (works_calls _).mono ?_; rintro e w1 ⟨rfl, hb⟩; have HB := Aside0.mk hb; clear hb) | (go_at_call 13; refine (sum_Frame.calls k t _ _ _ HK.out).mono ?_; rintro e w2 ⟨rfl, hb⟩; have HB2 := Aside0.mk (below_step HB.out hb); clear hb) | (go_at_call 19; refine (corncribbook_Among.calls _ _ _ _ HM.out).mono ?_; rintro e w' ⟨rfl, nd, rfl⟩))
      clear hP2
      have HN := Aside0.mk (Nat.le_refl w2.heap.size)
      have HC : Aside0 (Bc ((Lib.bytesWorld w2 5 f).drewN nd) w2.heap.size f.size (turnF 1 (16 + m) f.size (fun j => bt f j) 0)) := ⟨(bc_conv w2 5 f).drewN nd⟩
      have HB3 : Aside0 (Below w.heap.size w ((Lib.bytesWorld w2 5 f).drewN nd)) := ⟨pw_below_drewN (bytes_below HB2.out HB2.out.size 5 f) nd⟩
      have HG : Aside0 (w.heap.size ≤ w2.heap.size) := ⟨HB2.out.size⟩
      generalize hcap : grownCap w2 f.size 0 5 = cap
      generalize (Lib.bytesWorld w2 5 f).drewN nd = W0 at HC HB3 ⊢
      generalize w2.heap.size = gb at HC HG ⊢
      clear hcv hcap HN HB HB2 HM
      go_loopw [42] (fun v42 wr => ∃ k : Nat, k ≤ 32 ∧ v42 = .int .i64 k ∧ Aside0 (Bc wr gb f.size (turnF 1 (16 + m) f.size (fun j => bt f j) k)) ∧ Aside0 (Below w.heap.size w wr)) (fun v42 _ => 32 - (intOf v42).toNat)
      case atStart => exact ⟨0, by omega, rfl, HC, HB3⟩
      case round =>
        clear HC HB3
        obtain ⟨k, hk, rfl, HC, HB⟩ := hrel
        by_cases hlt : k < 32
        · have HK0 := Aside0.mk hlt
          have hd : (Go.bits .and .u32 ((1 : Int) / 2 ^ k) 1 == 1) = Nat.testBit 1 k := turn_bit32 1 k
          by_cases hb : Nat.testBit 1 k = true
          · rw [hb] at hd
            by_cases hlen : 16 + m + k < 8 * f.size
            · have c1 : decide ((16 : Int) + (m : Int) + (k : Int) < 8 * (f.size : Int)) = true := decide_eq_true (by omega)
              go_wp2
              have hj : (16 + m + k) / 8 < f.size := by omega
              have hx := HC.out.cell hj
              have hf0 := HC.out.frozen hj
              obtain ⟨J, hJ⟩ : ∃ J : Nat, J = (16 + m + k) / 8 := ⟨_, rfl⟩
              obtain ⟨R, hR⟩ : ∃ R : Nat, R = (16 + m + k) % 8 := ⟨_, rfl⟩
              obtain ⟨q, hq⟩ : ∃ q : Int, (16 : Int) + (m : Int) + (k : Int) = q := ⟨_, rfl⟩
              rw [← hJ] at hx hf0 hj
              have d1 : q / 8 = (J : Int) := by omega
              have d2 : Int.tdiv q 8 = (J : Int) := by rw [Int.tdiv_eq_ediv_of_nonneg (by omega)]; exact d1
              have d3 : q % 8 = (R : Int) := by omega
              have d4 : Int.tmod q 8 = (R : Int) := by rw [Int.tmod_eq_emod_of_nonneg (by omega)]; exact d3
              have d5 : IntKind.i64.wrap (J : Int) = (J : Int) := by rw [IntKind.wrap_i64]; omega
              have d6 : IntKind.i64.wrap (R : Int) = (R : Int) := by rw [IntKind.wrap_i64]; omega
              have d7 : (0 : Int) ≤ (J : Int) := by omega
              have d8 : (J : Int) < (f.size : Int) := by omega
              have d9 : (0 : Int) ≤ (R : Int) := by omega
              rw [hq]
              have HSET : Aside0 (∀ u, u = Go.bits .xor .u8 (turnF 1 (16 + m) f.size (fun j => bt f j) k J) (IntKind.u8.wrap (2 ^ R)) → Bc (wr.setCell ⟨gb, J, none⟩ (.int .u8 u)) gb f.size (turnF 1 (16 + m) f.size (fun j => bt f j) (k + 1))) := ⟨fun u hu => by
                have hw : IntKind.u8.wrap ((2 : Int) ^ R) = ((2 ^ ((16 + m + k) % 8) : Nat) : Int) := by
                  rw [hR]; exact wrap_pow8 _
                rw [hw] at hu
                refine (HC.out.set hj u).congr fun j' _ => ?_
                show _ = stepF 1 (16 + m) f.size (turnF 1 (16 + m) f.size (fun j => bt f j) k) k j'
                unfold stepF
                by_cases he : j' = J
                · rw [if_pos he, if_pos ⟨hb, hlen, by omega⟩, hu, he]
                · rw [if_neg he, if_neg (by omega)]⟩
              generalize turnF 1 (16 + m) f.size (fun j => bt f j) k J = V at hx HSET
              clear hd hb hlen c1 hJ hR hq hk hlt hm2 hn1 hn2
              go_region_law (fail)
              go_wp2_with fail
              exact ⟨⟨k + 1, by have := HK0.out; omega, by go_num, ⟨(HSET.out _ rfl).keep rfl⟩, ⟨below_drew (below_set HB.out HG.out)⟩⟩, by have := HK0.out; simp [intOf]; omega⟩
            · have c1 : decide ((16 : Int) + (m : Int) + (k : Int) < 8 * (f.size : Int)) = false := decide_eq_false (by omega)
              have HC2 : Aside0 (Bc wr gb f.size (turnF 1 (16 + m) f.size (fun j => bt f j) (k + 1))) := ⟨HC.out.congr fun j' _ => by
                show _ = stepF 1 (16 + m) f.size (turnF 1 (16 + m) f.size (fun j => bt f j) k) k j'
                unfold stepF
                rw [if_neg (by omega)]⟩
              clear hlen
              go_wp2
              exact ⟨⟨k + 1, by omega, by go_num, HC2, HB⟩, by simp [intOf]; omega⟩
          · have hb' : Nat.testBit 1 k = false := by simpa using hb
            rw [hb'] at hd
            have HC2 : Aside0 (Bc wr gb f.size (turnF 1 (16 + m) f.size (fun j => bt f j) (k + 1))) := ⟨HC.out.congr fun j' _ => by
              show _ = stepF 1 (16 + m) f.size (turnF 1 (16 + m) f.size (fun j => bt f j) k) k j'
              unfold stepF
              rw [if_neg (by simp [hb'])]⟩
            clear hb hb'
            go_wp2
            exact ⟨⟨k + 1, by omega, by go_num, HC2, HB⟩, by simp [intOf]; omega⟩
        · obtain rfl : k = 32 := by omega
          have hst := Bc.string (c := cap) Try.underlying24 Try.underlying5 Try.underlying9 HC.out (by omega)
          have htu : strOfNums (listOf f.size (turnF 1 (16 + m) f.size (fun j => bt f j) 32)) = turned t 1 (16 + m) := by rw [← HF.out]; rfl
          rw [htu] at hst
          have HNX := Aside0.mk (fun hne => turned_next t HT4.out 1 (16 + m) (by omega) hne)
          have hsz := turned_size t 1 (16 + m)
          have HSZ := Aside0.mk hsz
          clear htu hsz
          generalize turned t 1 (16 + m) = g at hst HNX HSZ
          by_cases heq : g = f
          · subst heq
            go_wp2
            go_ret
            exact ⟨rfl, HB.out⟩
          · have e1 : (g.toList == f.toList) = false := by simpa using fun hc => heq (by apply B_inj; rw [← toList_eq, ← toList_eq]; exact hc)
            have hnx : nextB g 0 = (⟨#[]⟩, 0, 51) := HNX.out (by rw [HF.out]; exact heq)
            have hsz := HSZ.out
            rw [HF.out] at hsz
            have hev := next_ev g (by omega) 0
            rw [hnx] at hev
            obtain ⟨k2, hk2⟩ := Ev.rounds hev
            have HK2 := Aside0.mk hk2
            clear hev hnx hk2 hsz heq
            go_wp2_with (go_at_call 17; refine (sum_Next.calls k2 g 0 _ _ _ _ HK2.out).mono ?_; rintro e w3 ⟨rfl, hb⟩; have HB9 := Aside0.mk (below_step HB.out hb); clear hb)
            go_ret
            exact ⟨rfl, HB9.out⟩
    · rw [if_neg hp0] at hP
      have hpb : (IntKind.u32.wrap b == 0) = false := by simpa using hp0
      go_enter Try.func7, Try.ntmps7
      go_wp2_with (first | (go_at_call 10; refine (works_calls _).mono ?_; rintro e w1 ⟨rfl, hb⟩; have HB := Aside0.mk hb; clear hb) | (go_at_call 13; refine (sum_Frame.calls k t _ _ _ HK.out).mono ?_; rintro e w2 ⟨rfl, hb⟩; have HB2 := Aside0.mk (below_step HB.out hb); clear hb) | (go_at_call 19; refine (corncribbook_Among.calls _ _ _ _ HM.out).mono ?_; rintro e w' ⟨rfl, nd, rfl⟩))
      clear hP2
      have HN := Aside0.mk (Nat.le_refl w2.heap.size)
      have HC : Aside0 (Bc ((Lib.bytesWorld w2 5 f).drewN nd) w2.heap.size f.size (turnF P (16 + m) f.size (fun j => bt f j) 0)) := ⟨(bc_conv w2 5 f).drewN nd⟩
      have HB3 : Aside0 (Below w.heap.size w ((Lib.bytesWorld w2 5 f).drewN nd)) := ⟨pw_below_drewN (bytes_below HB2.out HB2.out.size 5 f) nd⟩
      have HG : Aside0 (w.heap.size ≤ w2.heap.size) := ⟨HB2.out.size⟩
      generalize hcap : grownCap w2 f.size 0 5 = cap
      generalize (Lib.bytesWorld w2 5 f).drewN nd = W0 at HC HB3 ⊢
      generalize w2.heap.size = gb at HC HG ⊢
      clear hcv hcap HN HB HB2 HM
      go_loopw [42] (fun v42 wr => ∃ k : Nat, k ≤ 32 ∧ v42 = .int .i64 k ∧ Aside0 (Bc wr gb f.size (turnF P (16 + m) f.size (fun j => bt f j) k)) ∧ Aside0 (Below w.heap.size w wr)) (fun v42 _ => 32 - (intOf v42).toNat)
      case atStart => exact ⟨0, by omega, rfl, HC, HB3⟩
      case round =>
        clear HC HB3
        obtain ⟨k, hk, rfl, HC, HB⟩ := hrel
        by_cases hlt : k < 32
        · have HK0 := Aside0.mk hlt
          have hd : (Go.bits .and .u32 (((P : Int)) / 2 ^ k) 1 == 1) = Nat.testBit P k := turn_bit32 P k
          by_cases hb : Nat.testBit P k = true
          · rw [hb] at hd
            by_cases hlen : 16 + m + k < 8 * f.size
            · have c1 : decide ((16 : Int) + (m : Int) + (k : Int) < 8 * (f.size : Int)) = true := decide_eq_true (by omega)
              go_wp2
              have hj : (16 + m + k) / 8 < f.size := by omega
              have hx := HC.out.cell hj
              have hf0 := HC.out.frozen hj
              obtain ⟨J, hJ⟩ : ∃ J : Nat, J = (16 + m + k) / 8 := ⟨_, rfl⟩
              obtain ⟨R, hR⟩ : ∃ R : Nat, R = (16 + m + k) % 8 := ⟨_, rfl⟩
              obtain ⟨q, hq⟩ : ∃ q : Int, (16 : Int) + (m : Int) + (k : Int) = q := ⟨_, rfl⟩
              rw [← hJ] at hx hf0 hj
              have d1 : q / 8 = (J : Int) := by omega
              have d2 : Int.tdiv q 8 = (J : Int) := by rw [Int.tdiv_eq_ediv_of_nonneg (by omega)]; exact d1
              have d3 : q % 8 = (R : Int) := by omega
              have d4 : Int.tmod q 8 = (R : Int) := by rw [Int.tmod_eq_emod_of_nonneg (by omega)]; exact d3
              have d5 : IntKind.i64.wrap (J : Int) = (J : Int) := by rw [IntKind.wrap_i64]; omega
              have d6 : IntKind.i64.wrap (R : Int) = (R : Int) := by rw [IntKind.wrap_i64]; omega
              have d7 : (0 : Int) ≤ (J : Int) := by omega
              have d8 : (J : Int) < (f.size : Int) := by omega
              have d9 : (0 : Int) ≤ (R : Int) := by omega
              rw [hq]
              have HSET : Aside0 (∀ u, u = Go.bits .xor .u8 (turnF P (16 + m) f.size (fun j => bt f j) k J) (IntKind.u8.wrap (2 ^ R)) → Bc (wr.setCell ⟨gb, J, none⟩ (.int .u8 u)) gb f.size (turnF P (16 + m) f.size (fun j => bt f j) (k + 1))) := ⟨fun u hu => by
                have hw : IntKind.u8.wrap ((2 : Int) ^ R) = ((2 ^ ((16 + m + k) % 8) : Nat) : Int) := by
                  rw [hR]; exact wrap_pow8 _
                rw [hw] at hu
                refine (HC.out.set hj u).congr fun j' _ => ?_
                show _ = stepF P (16 + m) f.size (turnF P (16 + m) f.size (fun j => bt f j) k) k j'
                unfold stepF
                by_cases he : j' = J
                · rw [if_pos he, if_pos ⟨hb, hlen, by omega⟩, hu, he]
                · rw [if_neg he, if_neg (by omega)]⟩
              generalize turnF P (16 + m) f.size (fun j => bt f j) k J = V at hx HSET
              clear hd hb hlen c1 hJ hR hq hk hlt hm2 hn1 hn2
              go_region_law (fail)
              go_wp2_with fail
              exact ⟨⟨k + 1, by have := HK0.out; omega, by go_num, ⟨(HSET.out _ rfl).keep rfl⟩, ⟨below_drew (below_set HB.out HG.out)⟩⟩, by have := HK0.out; simp [intOf]; omega⟩
            · have c1 : decide ((16 : Int) + (m : Int) + (k : Int) < 8 * (f.size : Int)) = false := decide_eq_false (by omega)
              have HC2 : Aside0 (Bc wr gb f.size (turnF P (16 + m) f.size (fun j => bt f j) (k + 1))) := ⟨HC.out.congr fun j' _ => by
                show _ = stepF P (16 + m) f.size (turnF P (16 + m) f.size (fun j => bt f j) k) k j'
                unfold stepF
                rw [if_neg (by omega)]⟩
              clear hlen
              go_wp2
              exact ⟨⟨k + 1, by omega, by go_num, HC2, HB⟩, by simp [intOf]; omega⟩
          · have hb' : Nat.testBit P k = false := by simpa using hb
            rw [hb'] at hd
            have HC2 : Aside0 (Bc wr gb f.size (turnF P (16 + m) f.size (fun j => bt f j) (k + 1))) := ⟨HC.out.congr fun j' _ => by
              show _ = stepF P (16 + m) f.size (turnF P (16 + m) f.size (fun j => bt f j) k) k j'
              unfold stepF
              rw [if_neg (by simp [hb'])]⟩
            clear hb hb'
            go_wp2
            exact ⟨⟨k + 1, by omega, by go_num, HC2, HB⟩, by simp [intOf]; omega⟩
        · obtain rfl : k = 32 := by omega
          have hst := Bc.string (c := cap) Try.underlying24 Try.underlying5 Try.underlying9 HC.out (by omega)
          have htu : strOfNums (listOf f.size (turnF P (16 + m) f.size (fun j => bt f j) 32)) = turned t P (16 + m) := by rw [← HF.out]; rfl
          rw [htu] at hst
          have HNX := Aside0.mk (fun hne => turned_next t HT4.out P (16 + m) (by omega) hne)
          have hsz := turned_size t P (16 + m)
          have HSZ := Aside0.mk hsz
          clear htu hsz
          generalize turned t P (16 + m) = g at hst HNX HSZ
          by_cases heq : g = f
          · subst heq
            go_wp2
            go_ret
            exact ⟨rfl, HB.out⟩
          · have e1 : (g.toList == f.toList) = false := by simpa using fun hc => heq (by apply B_inj; rw [← toList_eq, ← toList_eq]; exact hc)
            have hnx : nextB g 0 = (⟨#[]⟩, 0, 51) := HNX.out (by rw [HF.out]; exact heq)
            have hsz := HSZ.out
            rw [HF.out] at hsz
            have hev := next_ev g (by omega) 0
            rw [hnx] at hev
            obtain ⟨k2, hk2⟩ := Ev.rounds hev
            have HK2 := Aside0.mk hk2
            clear hev hnx hk2 hsz heq
            go_wp2_with (go_at_call 17; refine (sum_Next.calls k2 g 0 _ _ _ _ HK2.out).mono ?_; rintro e w3 ⟨rfl, hb⟩; have HB9 := Aside0.mk (below_step HB.out hb); clear hb)
            go_ret
            exact ⟨rfl, HB9.out⟩
theorem corncriblaw05_SumTurned.calls (a0 : ByteArray) (a1 : Int) (a2 : Int) (r : Bool) (w : World) (h : corncriblaw05_SumTurned.f a0 a1 a2 = some r) (hr_ : r = true) :
    Calls Try.prog 7 #[.string a0, .int .i64 a1, .int .i64 a2] w fun e w' => e = .returned (.bool r) ∧ Below w.heap.size w w' := by
  subst hr_
  unfold corncriblaw05_SumTurned.f at h
  split at h
  case isFalse => cases h
  rename_i hs
  exact turned_core a0 a1 a2 w hs
end Go.Proofs.Ytdajpglkggmpoaa.Al
