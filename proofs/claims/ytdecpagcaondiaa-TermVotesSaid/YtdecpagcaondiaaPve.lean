/- What the laws stand on, in one text: functions of the program by their contracts, and the plain mathematics behind them (5 of them). -/
import Derived.Test.YtdecpagcaondiaaPvd
import Derived.Test.YtdecpagcaondiaaWWords
import Derived.Test.YtdecpagcaondiaaRows
import Derived.ChangeArms
import Derived.ChangeShapes
import Derived.SizedLaws

/- The reference's votes and tellings come to what the program's do: plain lists. -/
namespace Go.Proofs.Ytdecpagcaondiaa.TermRef
open Go.RowKit Go.Proofs.Ytdecpagcaondiaa.Base Go.Proofs.Ytdecpagcaondiaa.Al Go.Proofs.Ytdecpagcaondiaa.LetSpec Go.Proofs.Ytdecpagcaondiaa.TermSpec Go.Proofs.YtdecpagcaondiaaW.PrintWords
set_option linter.unusedVariables false
set_option linter.unusedSimpArgs false
/-- The place of the first letter that counts from a node, of the first i letters. -/
def plc (nodes txn kind : Int) (l : List S34) (j : Int) : Nat → Option Nat
 | 0 => none
 | i + 1 => if plc nodes txn kind l j i = none ∧ okB nodes txn kind (rd_T34 l i) = true ∧ (rd_T34 l i).f1 = j then some i else plc nodes txn kind l j i
theorem rdOf_set {os : List (Option Nat)} {a j : Nat} {v : Option Nat} (h : a < os.length) : rdOf none (os.set a v) (j : Int) = if a = j then v else rdOf none os (j : Int) := by
 simp only [rdOf, Int.toNat_natCast, List.getD_eq_getElem?_getD, List.getElem?_set]
 split
 ·subst_vars
  simp [h]
 ·rfl
theorem tab_plc (nodes txn kind : Int) (l : List S34) : ∀ (i : Nat) (j : Nat), j < nodes.toNat → rdOf none (tab nodes txn kind l i) (j : Int) = plc nodes txn kind l j i
 | 0, j, h => by simp [tab, plc, rdOf, List.getD_eq_getElem?_getD, List.getElem?_replicate, h]
 | i + 1, j, h => by
  have ih := tab_plc nodes txn kind l i
  unfold tab plc
  generalize rd_T34 l i = y
  by_cases hok : okB nodes txn kind y = true
  ·obtain ⟨_, _, h1, h2, _⟩ := of_decide_eq_true hok
   obtain ⟨m, hm⟩ : ∃ m : Nat, y.f1 = m := ⟨y.f1.toNat, by omega⟩
   have hml : m < nodes.toNat := by omega
   rw [hm, ih m hml]
   by_cases hp : plc nodes txn kind l m i = none
   ·rw [if_pos ⟨hok, hp⟩, Int.toNat_natCast, rdOf_set (by rw [tab_len]; exact hml)]
    by_cases hj : m = j
    ·subst hj
     rw [if_pos rfl, if_pos ⟨hp, hok, rfl⟩]
    ·rw [if_neg hj, if_neg (fun hc => hj (by have := hc.2.2; omega)), ih j h]
   ·rw [if_neg (fun hc => hp hc.2)]
    by_cases hj : m = j
    ·subst hj
     rw [if_neg (fun hc => hp hc.1), ih m hml]
    ·rw [if_neg (fun hc => hj (by have := hc.2.2; omega)), ih j h]
  ·rw [if_neg (fun hc => hok hc.1), if_neg (fun hc => hok hc.2.1), ih j h]
theorem plc_stay {nodes txn kind : Int} {l : List S34} {j : Int} {p : Nat} : ∀ (d i : Nat), plc nodes txn kind l j i = some p → plc nodes txn kind l j (i + d) = some p
 | 0, i, h => h
 | d + 1, i, h => by
  have h1 : plc nodes txn kind l j (i + 1) = some p := by
   rw [plc, if_neg (fun hc => by rw [h] at hc; cases hc.1)]; exact h
  have := plc_stay d (i + 1) h1
  rwa [Nat.add_right_comm] at this
def pl (o : Option Nat) : Int := match o with | none => -1 | some p => (p : Int)
theorem rfirst_l0 (nodes txn kind : Int) (l : List S34) (j : Int) (hj0 : 0 ≤ j) (hj1 : j < nodes) (hl : l.length ≤ 1024) (hs : lenOk l = true) : ∀ (d i : Nat), i + d = l.length → plc nodes txn kind l j i = none → Ev (fun k => corncribref21_first.l0 k j txn kind l i) (pl (plc nodes txn kind l j l.length))
 | 0, i, h, hp => by
  obtain rfl : i = l.length := by omega
  refine Ev.succ ?_
  simp only [corncribref21_first.l0]
  refine Ev.neg (by omega) ?_
  rw [hp]
  exact Ev.now _
 | d + 1, i, h, hp => by
  have hi : i < l.length := by omega
  have e : wrap64 ((i : Int) + 1) = ((i + 1 : Nat) : Int) := by rw [wrap_id (by omega) (by omega)]; omega
  have ih := rfirst_l0 nodes txn kind l j hj0 hj1 hl hs d (i + 1) (by omega)
  have hno : ¬ (okB nodes txn kind (rd_T34 l i) = true ∧ (rd_T34 l i).f1 = j) → Ev (fun k => corncribref21_first.l0 k j txn kind l ((i + 1 : Nat) : Int)) (pl (plc nodes txn kind l j l.length)) := fun hc => ih (by rw [plc, if_neg (fun h' => hc h'.2)]; exact hp)
  have hyes : okB nodes txn kind (rd_T34 l i) = true → (rd_T34 l i).f1 = j → plc nodes txn kind l j l.length = some i := fun h1 h2 => by
   have := plc_stay (nodes := nodes) (txn := txn) (kind := kind) (l := l) (j := j) (p := i) d (i + 1) (by rw [plc, if_pos ⟨hp, h1, h2⟩])
   rwa [show i + 1 + d = l.length by omega] at this
  obtain ⟨z7, z8⟩ := lenOk_at hs (i : Int)
  refine Ev.succ ?_
  simp only [corncribref21_first.l0, e]
  refine Ev.pos (by omega) (Ev.pos (by omega) ?_)
  generalize rd_T34 l (i : Int) = y at *
  by_cases k1 : y.f1 = j
  ·refine Ev.pos k1 ?_
   by_cases k2 : y.f3 = txn
   ·refine Ev.pos k2 ?_
    by_cases k3 : y.f0 = kind
    ·refine Ev.pos k3 (Ev.bind (rcheckL_ev y.f0 y.f1 y.f2 y.f3 y.f4 y.f5 y.f6 y.f7 y.f8 z7 z8) ?_)
     by_cases k4 : chkS y = 0
     ·refine Ev.pos k4 ?_
      rw [hyes (decide_eq_true ⟨k3, k2, by omega, by omega, k4⟩) k1]
      exact Ev.now _
     ·exact Ev.neg k4 (hno (fun hc => k4 (of_decide_eq_true hc.1).2.2.2.2))
    ·exact Ev.neg k3 (hno (fun hc => k3 (of_decide_eq_true hc.1).1))
   ·exact Ev.neg k2 (hno (fun hc => k2 (of_decide_eq_true hc.1).2.1))
  ·exact Ev.neg k1 (hno (fun hc => k1 hc.2))
theorem rfirst_ev (nodes txn kind : Int) (l : List S34) (j : Nat) (hj : j < nodes.toNat) (hl : l.length ≤ 1024) (hs : lenOk l = true) : Ev (fun k => corncribref21_first.f k j txn kind l) (pl (rdOf none (full nodes txn kind l) (j : Int))) := by
 rw [full, tab_plc _ _ _ _ _ _ hj]
 exact rfirst_l0 nodes txn kind l j (by omega) (by omega) hl hs l.length 0 (by omega) rfl
theorem may_ev (nodes me txn : Int) (l : List S34) : Ev (fun k => corncribref21_may.f k nodes me txn l) (wrongL nodes me txn l.length) := by
 have hj : ∀ b : Bool, Ev (fun k => corncribref21_may.j0 k l b) (if b = true then 1 else if (l.length : Int) > 1024 then 2 else 0) := fun b => by
  refine Ev.succ ?_
  by_cases hb : b = true
  ·simp only [corncribref21_may.j0, if_pos hb]; exact Ev.now _
  ·by_cases hl : (l.length : Int) > 1024
   ·simp only [corncribref21_may.j0, if_neg hb, if_pos hl]; exact Ev.now _
   ·simp only [corncribref21_may.j0, if_neg hb, if_neg hl]; exact Ev.now _
 have ht := hj true
 unfold corncribref21_may.f wrongL
 by_cases c1 : nodes < 1
 ·refine Ev.pos c1 ?_
  rw [if_pos (by omega)]; exact ht
 refine Ev.neg c1 ?_
 by_cases c2 : nodes > 12
 ·refine Ev.pos c2 ?_
  rw [if_pos (by omega)]; exact ht
 refine Ev.neg c2 ?_
 by_cases c3 : me < 0
 ·refine Ev.pos c3 ?_
  rw [if_pos (by omega)]; exact ht
 refine Ev.neg c3 ?_
 by_cases c4 : me ≥ nodes
 ·refine Ev.pos c4 ?_
  rw [if_pos (by omega)]; exact ht
 refine Ev.neg c4 ?_
 have htx : corncribref07_Txn.f txn = some (decide (1 ≤ txn ∧ txn ≤ 1125899906842623)) := by
  unfold corncribref07_Txn.f
  split
  ·congr 1; apply decide_eq_decide.2; omega
  ·rw [decide_eq_false (by omega)]
 rw [htx]
 refine Ev.some_bind ?_
 have h := hj (!decide (1 ≤ txn ∧ txn ≤ 1125899906842623))
 by_cases c6 : 1 ≤ txn ∧ txn ≤ 1125899906842623
 ·rw [if_neg (by simp [c6])] at h
  rw [if_neg (by omega)]
  by_cases hl : 1024 < l.length
  ·rw [if_pos (by omega)] at h
   rw [if_pos hl]; exact h
  ·rw [if_neg (by omega)] at h
   rw [if_neg hl]; exact h
 ·rw [if_pos (by simp only [decide_eq_false c6]; rfl)] at h
  rw [if_pos (by omega)]; exact h
theorem full_len (nodes txn kind : Int) (l : List S34) : (full nodes txn kind l).length = nodes.toNat := tab_len _ _ _ _ _
theorem full_lt {nodes txn kind : Int} {l : List S34} {j p : Nat} (h : rdOf none (full nodes txn kind l) (j : Int) = some p) : p < l.length := by
 have hg : (full nodes txn kind l)[j]? = some (some p) := by
  simp only [rdOf, List.getD_eq_getElem?_getD, Int.toNat_natCast] at h
  cases hc : (full nodes txn kind l)[j]? with
  | none => rw [hc] at h; cases h
  | some o => rw [hc] at h; simp at h; rw [h]
 exact tab_lt nodes txn kind l _ _ _ hg
theorem rvotes_l0 (nodes txn : Int) (l : List S34) (hn : nodes ≤ 12) (hl : l.length ≤ 1024) (hs : lenOk l = true) : ∀ (d j yes : Nat), j + d = nodes.toNat → yes ≤ j → 0 ≤ nodes → Ev (fun k => corncribref21_Votes.l0 k nodes txn l yes j) (vgo l ((full nodes txn 4 l).drop j) (if yes = j then 1 else 0), 0)
 | 0, j, yes, h, hy, h0 => by
  refine Ev.succ ?_
  simp only [corncribref21_Votes.l0]
  refine Ev.neg (by omega) ?_
  rw [List.drop_of_length_le (by rw [full_len]; omega), vgo]
  by_cases hc : yes = j
  ·rw [if_pos hc]; exact Ev.pos (by omega) (Ev.now _)
  ·rw [if_neg hc]; exact Ev.neg (by omega) (Ev.now _)
 | d + 1, j, yes, h, hy, h0 => by
  have hj : j < nodes.toNat := by omega
  have e1 : wrap64 ((j : Int) + 1) = ((j + 1 : Nat) : Int) := by rw [wrap_id (by omega) (by omega)]; omega
  have e2 : wrap64 ((yes : Int) + 1) = ((yes + 1 : Nat) : Int) := by rw [wrap_id (by omega) (by omega)]; omega
  refine Ev.succ ?_
  simp only [corncribref21_Votes.l0]
  refine Ev.pos (by omega) (Ev.bind (rfirst_ev nodes txn 4 l j hj hl hs) ?_)
  rw [drop_at (d := none) (by rw [full_len]; exact hj)]
  rcases hp : rdOf none (full nodes txn 4 l) (j : Int) with _ | p
  ·have ih := rvotes_l0 nodes txn l hn hl hs d (j + 1) yes (by omega) (by omega) h0
   rw [if_neg (by omega)] at ih
   refine Ev.neg (by simp [pl]) (Ev.succ ?_)
   simp only [corncribref21_Votes.j1, e1, e2, pl, vgo]
   refine Ev.neg (by decide) (Ev.neg (by decide) ih)
  ·have hlt := full_lt hp
   refine Ev.pos (by simp [pl]) (Ev.pos (by simp [pl]) (Ev.pos (by simp [pl]; omega) (Ev.succ ?_)))
   simp only [corncribref21_Votes.j1, e1, e2, pl, vgo]
   by_cases hz : (rd_T34 l (p : Int)).f5 = 0
   ·rw [if_pos hz]
    exact Ev.pos (by rw [hz]; rfl) (Ev.now _)
   ·rw [if_neg hz]
    have ih := rvotes_l0 nodes txn l hn hl hs d (j + 1) (yes + 1) (by omega) (by omega) h0
    refine Ev.neg (by simpa using hz) (Ev.pos (by omega) ?_)
    by_cases hc : yes = j
    ·rw [if_pos hc]; rw [if_pos (by omega)] at ih; exact ih
    ·rw [if_neg hc]; rw [if_neg (by omega)] at ih; exact ih
theorem rvotes_ev (nodes txn : Int) (l : List S34) (hs : lenOk l = true) : Ev (fun k => corncribref21_Votes.f k nodes txn l) (votesL nodes txn l) := by
 unfold corncribref21_Votes.f votesL
 refine Ev.bind (may_ev nodes 0 txn l) ?_
 by_cases hw : wrongL nodes 0 txn l.length = 0
 ·obtain ⟨h1, h2, _, _, h5⟩ := wrong_zero hw
  rw [if_pos hw]
  refine Ev.pos hw ?_
  have := rvotes_l0 nodes txn l h2 h5 hs nodes.toNat 0 0 (by omega) (Nat.le_refl _) (by omega)
  rwa [if_pos rfl, List.drop_zero] at this
 ·rw [if_neg hw]
  exact Ev.neg hw (Ev.now _)
theorem rmissing_l0 (nodes txn kind : Int) (l : List S34) (hn : nodes ≤ 12) (hl : l.length ≤ 1024) (hs : lenOk l = true) : ∀ (d j : Nat) (xs : List Int), j + d = nodes.toNat → xs.length ≤ j → 0 ≤ nodes → Ev (fun k => corncribref21_Missing.l0 k nodes txn kind l xs j) (xs ++ mgo ((full nodes txn kind l).drop j) j, 0)
 | 0, j, xs, h, hy, h0 => by
  refine Ev.succ ?_
  simp only [corncribref21_Missing.l0]
  refine Ev.neg (by omega) ?_
  rw [List.drop_of_length_le (by rw [full_len]; omega), mgo, List.append_nil]
  exact Ev.now _
 | d + 1, j, xs, h, hy, h0 => by
  have hj : j < nodes.toNat := by omega
  have e1 : wrap64 ((j : Int) + 1) = ((j + 1 : Nat) : Int) := by rw [wrap_id (by omega) (by omega)]; omega
  refine Ev.succ ?_
  simp only [corncribref21_Missing.l0, e1]
  refine Ev.pos (by omega) (Ev.bind (rfirst_ev nodes txn kind l j hj hl hs) ?_)
  rw [drop_at (d := none) (by rw [full_len]; exact hj)]
  rcases hp : rdOf none (full nodes txn kind l) (j : Int) with _ | p
  ·have ih := rmissing_l0 nodes txn kind l hn hl hs d (j + 1) (xs ++ [(j : Int)]) (by omega) (by simp; omega) h0
   refine Ev.pos (by simp [pl]) (Ev.pos (by omega) ?_)
   rw [mgo]
   rwa [List.append_assoc] at ih
  ·have ih := rmissing_l0 nodes txn kind l hn hl hs d (j + 1) xs (by omega) (by omega) h0
   refine Ev.neg (by simp [pl]) ?_
   rw [mgo]
   exact ih
theorem rmissing_ev (nodes txn kind : Int) (l : List S34) (hs : lenOk l = true) : Ev (fun k => corncribref21_Missing.f k nodes txn kind l) (missL nodes txn kind l) := by
 unfold corncribref21_Missing.f missL
 refine Ev.bind (may_ev nodes 0 txn l) ?_
 by_cases hw : wrongL nodes 0 txn l.length = 0
 ·obtain ⟨h1, h2, _, _, h5⟩ := wrong_zero hw
  rw [if_pos hw]
  refine Ev.pos hw ?_
  have := rmissing_l0 nodes txn kind l h2 h5 hs nodes.toNat 0 [] (by omega) (Nat.le_refl _) (by omega)
  rwa [List.nil_append, List.drop_zero] at this
 ·rw [if_neg hw]
  exact Ev.neg hw (Ev.now _)
/-- Behind a fault the reference goes on, and tells it at the end. -/
theorem rtold_bad (nodes me txn : Int) (l : List S34) (hn : nodes ≤ 12) (hl : l.length ≤ 1024) (hs : lenOk l = true) : ∀ (d j : Nat) (t dd : Int) (nb : Bool), j + d = nodes.toNat → 0 ≤ nodes → Ev (fun k => corncribref21_Told.l0 k nodes me txn l t nb dd true j) (0, 0, 120)
 | 0, j, t, dd, nb, h, h0 => by
  refine Ev.succ ?_
  simp only [corncribref21_Told.l0]
  refine Ev.neg (by omega) (Ev.pos (by trivial) (Ev.succ ?_))
  simp only [corncribref21_Told.j2]
  exact Ev.pos (by trivial) (Ev.now _)
 | d + 1, j, t, dd, nb, h, h0 => by
  have hj : j < nodes.toNat := by omega
  have e1 : wrap64 ((j : Int) + 1) = ((j + 1 : Nat) : Int) := by rw [wrap_id (by omega) (by omega)]; omega
  have ih := fun t dd nb => rtold_bad nodes me txn l hn hl hs d (j + 1) t dd nb (by omega) h0
  refine Ev.succ ?_
  simp only [corncribref21_Told.l0]
  refine Ev.pos (by omega) (Ev.bind (rfirst_ev nodes txn 8 l j hj hl hs) ?_)
  have hskip : Ev (fun k => corncribref21_Told.j1 k nodes me txn l t nb dd true j (pl (rdOf none (full nodes txn 8 l) (j : Int))) true) (0, 0, 120) := by
   refine Ev.succ ?_
   simp only [corncribref21_Told.j1, e1]
   exact Ev.pos (by trivial) (ih _ _ _)
  by_cases hm : (j : Int) = me
  ·exact Ev.pos hm hskip
  refine Ev.neg hm ?_
  rcases hp : rdOf none (full nodes txn 8 l) (j : Int) with _ | p
  ·rw [hp] at hskip
   exact hskip
  ·have hlt := full_lt hp
   rw [show decide (pl (some p) < 0) = false from decide_eq_false (by simp [pl])]
   refine Ev.succ ?_
   simp only [corncribref21_Told.j1, e1, pl]
   refine Ev.neg (by decide) (Ev.pos (by omega) (Ev.pos (by omega) ?_))
   by_cases c1 : (rd_T34 l (p : Int)).f5 = 0
   ·exact Ev.pos c1 (ih _ _ _)
   refine Ev.neg c1 ?_
   by_cases c2 : (rd_T34 l (p : Int)).f5 = 2
   ·exact Ev.pos c2 (ih _ _ _)
   exact Ev.neg c2 (Ev.pos (by trivial) (ih _ _ _))
theorem rtold_l0 (nodes me txn : Int) (l : List S34) (hn : nodes ≤ 12) (hl : l.length ≤ 1024) (hs : lenOk l = true) : ∀ (d j : Nat) (t n dd : Int) (nb : Bool), j + d = nodes.toNat → 0 ≤ nodes → 0 ≤ n → (nb = true ↔ 0 < n) → 0 ≤ dd → dd ≤ j → Ev (fun k => corncribref21_Told.l0 k nodes me txn l t nb dd false j) (tfin nodes (tgo l me ((full nodes txn 8 l).drop j) j n dd t))
 | 0, j, t, n, dd, nb, h, h0, hnn, hnb, hd0, hd1 => by
  refine Ev.succ ?_
  simp only [corncribref21_Told.l0]
  rw [List.drop_of_length_le (by rw [full_len]; omega), tgo]
  refine Ev.neg (by omega) (Ev.neg (by decide) ?_)
  have e3 : wrap64 (nodes - 1) = nodes - 1 := wrap_id (by omega) (by omega)
  have hj2 : ∀ b : Bool, (b = true ↔ 0 < t ∧ 0 < n) → Ev (fun k => corncribref21_Told.j2 k nodes t nb dd b) (tfin nodes (some (n, dd, t))) := fun b hb => by
   refine Ev.succ ?_
   simp only [corncribref21_Told.j2, e3]
   by_cases c1 : 0 < t ∧ 0 < n
   ·exact Ev.to (Ev.pos (hb.2 c1) (Ev.now _)) (by rw [tfin, if_pos c1])
   refine Ev.neg (fun hc => c1 (hb.1 hc)) ?_
   by_cases c2 : 0 < t
   ·exact Ev.to (Ev.pos c2 (Ev.now _)) (by rw [tfin, if_neg c1, if_pos c2])
   refine Ev.neg c2 ?_
   by_cases c3 : 0 < n
   ·exact Ev.to (Ev.pos (hnb.2 c3) (Ev.now _)) (by rw [tfin, if_neg c1, if_neg c2, if_pos c3])
   refine Ev.neg (fun hc => c3 (hnb.1 hc)) ?_
   by_cases c4 : dd = nodes - 1
   ·exact Ev.to (Ev.pos c4 (Ev.now _)) (by rw [tfin, if_neg c1, if_neg c2, if_neg c3, if_pos c4])
   ·exact Ev.to (Ev.neg c4 (Ev.now _)) (by rw [tfin, if_neg c1, if_neg c2, if_neg c3, if_neg c4])
  by_cases c : t > 0
  ·exact Ev.pos c (hj2 nb ⟨fun h => ⟨c, hnb.1 h⟩, fun h => hnb.2 h.2⟩)
  ·exact Ev.neg c (hj2 false ⟨(fun h => by cases h), fun h => absurd h.1 c⟩)
 | d + 1, j, t, n, dd, nb, h, h0, hnn, hnb, hd0, hd1 => by
  have hj : j < nodes.toNat := by omega
  have e1 : wrap64 ((j : Int) + 1) = ((j + 1 : Nat) : Int) := by rw [wrap_id (by omega) (by omega)]; omega
  have e2 : wrap64 (dd + 1) = dd + 1 := wrap_id (by omega) (by omega)
  have ih := fun t n dd nb => rtold_l0 nodes me txn l hn hl hs d (j + 1) t n dd nb (by omega) h0
  refine Ev.succ ?_
  simp only [corncribref21_Told.l0]
  refine Ev.pos (by omega) (Ev.bind (rfirst_ev nodes txn 8 l j hj hl hs) ?_)
  rw [drop_at (d := none) (by rw [full_len]; exact hj)]
  have hskip : ∀ v, Ev (fun k => corncribref21_Told.j1 k nodes me txn l t nb dd false j v true) (tfin nodes (tgo l me ((full nodes txn 8 l).drop (j + 1)) (j + 1) n dd t)) := fun v => by
   refine Ev.succ ?_
   simp only [corncribref21_Told.j1, e1]
   exact Ev.pos (by trivial) (ih t n dd nb hnn hnb hd0 (by omega))
  by_cases hm : (j : Int) = me
  ·refine Ev.pos hm ?_
   rcases hp : rdOf none (full nodes txn 8 l) (j : Int) with _ | p
   ·rw [tgo]; exact hskip _
   ·rw [tgo, if_pos hm]; exact hskip _
  refine Ev.neg hm ?_
  rcases hp : rdOf none (full nodes txn 8 l) (j : Int) with _ | p
  ·rw [tgo]; exact hskip _
  ·have hlt := full_lt hp
   rw [tgo, if_neg hm, show decide (pl (some p) < 0) = false from decide_eq_false (by simp [pl])]
   refine Ev.succ ?_
   simp only [corncribref21_Told.j1, e1, e2, pl]
   refine Ev.neg (by decide) (Ev.pos (by omega) (Ev.pos (by omega) ?_))
   by_cases c1 : (rd_T34 l (p : Int)).f5 = 0
   ·rw [if_pos c1]; exact Ev.pos c1 (ih t (n + 1) dd true (by omega) ⟨(fun _ => by omega), fun _ => rfl⟩ hd0 (by omega))
   rw [if_neg c1]
   refine Ev.neg c1 ?_
   by_cases c2 : (rd_T34 l (p : Int)).f5 = 2
   ·rw [if_pos c2]; exact Ev.pos c2 (ih t n (dd + 1) nb hnn hnb (by omega) (by omega))
   rw [if_neg c2]
   refine Ev.neg c2 (Ev.neg (by decide) ?_)
   generalize (rd_T34 l (p : Int)).f4 = ts
   have emx : mx t ts = max t ts := by unfold mx; omega
   rw [emx]
   by_cases c3 : t > 0
   ·refine Ev.pos c3 ?_
    by_cases c4 : ts > 0
    ·refine Ev.pos c4 ?_
     by_cases c5 : ts = t
     ·rw [if_neg (fun hc => hc.2.2 c5), show (ts != t) = false from bne_eq_false_iff_eq.2 c5]
      exact ih (max t ts) n dd nb hnn hnb hd0 (by omega)
     ·rw [if_pos ⟨c4, c3, c5⟩, show (ts != t) = true from bne_iff_ne.2 c5]
      exact rtold_bad nodes me txn l hn hl hs d (j + 1) _ _ _ (by omega) h0
    ·rw [if_neg (fun hc => c4 hc.1)]
     exact Ev.neg c4 (ih (max t ts) n dd nb hnn hnb hd0 (by omega))
   ·rw [if_neg (fun hc => c3 hc.2.1)]
    exact Ev.neg c3 (ih (max t ts) n dd nb hnn hnb hd0 (by omega))
theorem rtold_ev (nodes me txn : Int) (l : List S34) (hs : lenOk l = true) : Ev (fun k => corncribref21_Told.f k nodes me txn l) (toldL nodes me txn l) := by
 unfold corncribref21_Told.f toldL
 refine Ev.bind (may_ev nodes me txn l) ?_
 by_cases hw : wrongL nodes me txn l.length = 0
 ·obtain ⟨h1, h2, _, _, h5⟩ := wrong_zero hw
  rw [if_pos hw]
  refine Ev.pos hw ?_
  have := rtold_l0 nodes me txn l h2 h5 hs nodes.toNat 0 0 0 0 false (by omega) (by omega) (by omega) ⟨(fun h => by cases h), fun h => by omega⟩ (by omega) (by omega)
  rwa [List.drop_zero] at this
 ·rw [if_neg hw]
  exact Ev.neg hw (Ev.now _)
end Go.Proofs.Ytdecpagcaondiaa.TermRef

/- A list of texts is the same as itself. -/
namespace Go.Proofs.Ytdecpagcaondiaa.LetSpec
open Go.RowKit Go.Proofs.Ytdecpagcaondiaa.Base Go.Proofs.Ytdecpagcaondiaa.Al Go.Proofs.YtdecpagcaondiaaW.PrintWords
theorem sameT_l0 (l : List ByteArray) (hl : l.length ≤ 4611686018427387904) : ∀ (d i : Nat), i + d = l.length → Ev (fun k => corncribbook_SameTexts.l0 k l l (i : Int)) true
 | 0, i, h => Ev.step (f := fun _ => some true) (fun k => by simp only [corncribbook_SameTexts.l0]; rw [if_neg (by omega)]) (Ev.now _)
 | d + 1, i, h => by
  have ih := sameT_l0 l hl d (i + 1) (by omega)
  have e : wrap64 ((i : Int) + 1) = ((i + 1 : Nat) : Int) := by rw [wrap_id (by omega) (by omega)]; omega
  refine Ev.step (fun k => ?_) ih
  simp only [corncribbook_SameTexts.l0]
  rw [if_pos (by omega), if_pos (by omega), if_pos (by omega), if_pos trivial, e]
theorem sameT_ev (l : List ByteArray) (hl : l.length ≤ 4611686018427387904) : Ev (fun k => corncribbook_SameTexts.f k l l) true := by
 unfold corncribbook_SameTexts.f
 exact Ev.pos rfl (sameT_l0 l hl l.length 0 (by omega))
end Go.Proofs.Ytdecpagcaondiaa.LetSpec

/- A letter is the same as itself. -/
namespace Go.Proofs.Ytdecpagcaondiaa.LetSpec
open Go.RowKit Go.Proofs.Ytdecpagcaondiaa.Base Go.Proofs.Ytdecpagcaondiaa.Al Go.Proofs.YtdecpagcaondiaaW.PrintWords
theorem sameW_l0 (l : List S70) (hl : l.length ≤ 4611686018427387904) : ∀ (d i : Nat), i + d = l.length → Ev (fun k => corncribbook_SameWrites.l0 k l l (i : Int)) true
 | 0, i, h => Ev.step (f := fun _ => some true) (fun k => by simp only [corncribbook_SameWrites.l0]; rw [if_neg (by omega)]) (Ev.now _)
 | d + 1, i, h => by
  have ih := sameW_l0 l hl d (i + 1) (by omega)
  have e : wrap64 ((i : Int) + 1) = ((i + 1 : Nat) : Int) := by rw [wrap_id (by omega) (by omega)]; omega
  refine Ev.step (fun k => ?_) ih
  simp only [corncribbook_SameWrites.l0]
  rw [if_pos (by omega), if_pos (by omega), if_pos (by omega), if_neg (by simp), e]
theorem sameW_ev (l : List S70) (hl : l.length ≤ 4611686018427387904) : Ev (fun k => corncribbook_SameWrites.f k l l) true := by
 unfold corncribbook_SameWrites.f
 exact Ev.pos rfl (sameW_l0 l hl l.length 0 (by omega))
theorem sameL_ev (x0 x1 x2 x3 x4 x5 : Int) (x6 : ByteArray) (x7 : List ByteArray) (x8 : List S70) (h7 : x7.length ≤ 4611686018427387904) (h8 : x8.length ≤ 4611686018427387904) : Ev (fun k => corncribbook_SameLetter.f k x0 x1 x2 x3 x4 x5 x6 x7 x8 x0 x1 x2 x3 x4 x5 x6 x7 x8) true := by
 unfold corncribbook_SameLetter.f
 exact Ev.pos rfl (Ev.pos rfl (Ev.pos rfl (Ev.pos rfl (Ev.pos rfl (Ev.pos rfl (Ev.pos rfl (Ev.bind (sameT_ev x7 h7) (Ev.pos rfl (Ev.bind (sameW_ev x8 h8) (Ev.now _))))))))))
end Go.Proofs.Ytdecpagcaondiaa.LetSpec

/- Letters that are copied are the same; the chapter's example. -/
namespace Go.Proofs.Ytdecpagcaondiaa.TermRef
open Go.RowKit Go.Proofs.Ytdecpagcaondiaa.Base Go.Proofs.Ytdecpagcaondiaa.Al Go.Proofs.Ytdecpagcaondiaa.LetSpec Go.Proofs.Ytdecpagcaondiaa.TermSpec Go.Proofs.YtdecpagcaondiaaW.PrintWords
set_option linter.unusedVariables false
set_option linter.unusedSimpArgs false
theorem copyL_eq (x0 x1 x2 x3 x4 x5 : Int) (x6 : ByteArray) (x7 : List ByteArray) (x8 : List S70) (h7 : x7.length < 8796093022208) (h8 : x8.length < 3518437208883) : corncribbook_CopyLetter.f x0 x1 x2 x3 x4 x5 x6 x7 x8 = some (x0, x1, x2, x3, x4, x5, x6, x7, x8) := by
 unfold corncribbook_CopyLetter.f
 simp only [Option.bind_some, List.length_nil, Nat.zero_add, List.nil_append]
 rw [if_pos h7, if_pos h8]
/-- Letters whose own lists fit. -/
def fits (l : List S34) : Prop := ∀ i : Int, (rd_T34 l i).f7.length * 16 ≤ 140737488351232 ∧ (rd_T34 l i).f8.length * 40 ≤ 140737488351232
theorem fits_of {l : List S34} (h : ∀ x ∈ l, x.f7.length * 16 ≤ 140737488351232 ∧ x.f8.length * 40 ≤ 140737488351232) : fits l := fun i => by
 by_cases hi : i.toNat < l.length
 ·have e : rd_T34 l i = l[i.toNat] := by simp [rd_T34, List.getD_eq_getElem?_getD, hi]
  rw [e]; exact h _ (List.getElem_mem hi)
 ·have e : rd_T34 l i = z34 := by simp [rd_T34, List.getD_eq_getElem?_getD, Nat.not_lt.1 hi]
  rw [e]; simp [z34]
theorem lenOk_of {l : List S34} (h : ∀ x ∈ l, x.f7.length * 16 ≤ 140737488351232 ∧ x.f8.length * 40 ≤ 140737488351232) : lenOk l = true := List.all_eq_true.2 fun x hx => decide_eq_true (by have := h x hx; omega)
theorem rd_at {l : List S34} {i : Nat} (h : i < l.length) : rd_T34 l (i : Int) = l[i] := by simp [rd_T34, List.getD_eq_getElem?_getD, h]
theorem copied_l0 (l : List S34) (hl : l.length < 1256584717458) (hf : fits l) : ∀ (d i : Nat), i + d = l.length → Ev (fun k => corncriblaw21_copied.l0 k l (l.take i) i) l
 | 0, i, h => by
  refine Ev.succ ?_
  simp only [corncriblaw21_copied.l0]
  rw [List.take_of_length_le (by omega)]
  exact Ev.neg (by omega) (Ev.now _)
 | d + 1, i, h => by
  have hi : i < l.length := by omega
  have e : wrap64 ((i : Int) + 1) = ((i + 1 : Nat) : Int) := by rw [wrap_id (by omega) (by omega)]; omega
  have ih := copied_l0 l hl hf d (i + 1) (by omega)
  rw [List.take_succ_eq_append_getElem hi, ← rd_at hi] at ih
  have hz := hf i
  refine Ev.succ ?_
  simp only [corncriblaw21_copied.l0, e]
  rw [copyL_eq _ _ _ _ _ _ _ _ _ (by omega) (by omega)]
  refine Ev.pos (by omega) (Ev.pos (by omega) (Ev.some_bind (Ev.pos (by rw [List.length_take]; omega) ih)))
theorem copied_ev (l : List S34) (hl : l.length < 1256584717458) (hf : fits l) : Ev (fun k => corncriblaw21_copied.f k l) l := copied_l0 l hl hf l.length 0 (by omega)
theorem sameLs_l0 (l : List S34) (hl : l.length < 1256584717458) (hf : fits l) : ∀ (d i : Nat), i + d = l.length → Ev (fun k => corncribbook_SameLetters.l0 k l l i) true
 | 0, i, h => by
  refine Ev.succ ?_
  simp only [corncribbook_SameLetters.l0]
  exact Ev.neg (by omega) (Ev.now _)
 | d + 1, i, h => by
  have hi : i < l.length := by omega
  have e : wrap64 ((i : Int) + 1) = ((i + 1 : Nat) : Int) := by rw [wrap_id (by omega) (by omega)]; omega
  have ih := sameLs_l0 l hl hf d (i + 1) (by omega)
  have hz := hf i
  refine Ev.succ ?_
  simp only [corncribbook_SameLetters.l0, e]
  refine Ev.pos (by omega) (Ev.pos (by omega) (Ev.pos (by omega) (Ev.bind (sameL_ev _ _ _ _ _ _ _ _ _ (by omega) (by omega)) (Ev.pos rfl ih))))
theorem sameLs_ev (l : List S34) (hl : l.length < 1256584717458) (hf : fits l) : Ev (fun k => corncribbook_SameLetters.f k l l) true := by
 unfold corncribbook_SameLetters.f
 exact Ev.pos rfl (sameLs_l0 l hl hf l.length 0 (by omega))
theorem votes_eq {a0 a1 : Int} {l : List S34} (h : lenOk l = true) : term_Votes.f a0 a1 l = some (votesL a0 a1 l) := if_pos h
theorem works21 : corncriblaw21_works.f = some true := by kernel_rfl
end Go.Proofs.Ytdecpagcaondiaa.TermRef

/- An argument of any shape that is read: what the walk's contracts ask of it, and its bounds by the row's own reach and by the second form's bulk. -/
namespace Go.Proofs.Ytdecpagcaondiaa.Open
open Go.RowKit Go.Proofs.YtdecpagcaondiaaW.PrintWords

/-- Whatever reads as data of type t is told by d: V always, L where each string and slice is within the reach, m is within the bulk. -/
structure Opens {α : Type} (P : Program) (t : TypeId) (d : Kd α) (V L : α → Prop) (m : α → Nat) : Prop where
 out : ∀ {H : Type} {enc : TypeId × Value → H} {w : World} {base : Nat} {spare : Nat → Bool} {held : Bool} {fuel : Nat} {cs : List Value} {x : DataW H × List MemPlace}, DataW.trod enc P w base spare held fuel t cs = some x →
  ∃ a : α, d.K w a cs ∧ V a ∧ ((DataW.weights P t x.1).all (· ≤ reachBytes) = true → L a) ∧ m a ≤ Rows.uptoBulk x.1

theorem opens_int {P : Program} {t : TypeId} {k : IntKind} (ht : P.underlying t = some (.int k)) : Opens P t (Kd.int k) (fun n => (Lit.int k n).wf = true) (fun _ => True) (fun _ => 1) where
 out h := by
  obtain ⟨n, rfl, rfl, hw⟩ := DataW.trod_int ht h
  exact ⟨n, rfl, hw, fun _ => trivial, Nat.le_refl _⟩
theorem opens_bool {P : Program} {t : TypeId} (ht : P.underlying t = some .bool) : Opens P t Kd.bool (fun _ => True) (fun _ => True) (fun _ => 1) where
 out h := by
  obtain ⟨n, rfl, rfl⟩ := DataW.trod_bool ht h
  exact ⟨n, rfl, trivial, fun _ => trivial, Nat.le_refl _⟩
theorem opens_string {P : Program} {t : TypeId} (ht : P.underlying t = some .string) : Opens P t Kd.string (fun s => s.size ≤ maxLen) (fun s => s.size ≤ 140737488351232) (fun s => s.size + 1) where
 out h := by
  obtain ⟨s, rfl, rfl, hw⟩ := DataW.trod_string ht h
  refine ⟨s, rfl, hw, fun hx => ?_, ?_⟩
  ·simp only [DataW.weights, List.all_cons, List.all_nil, Bool.and_true, decide_eq_true_eq, data_length] at hx
   exact hx
  ·simp [Rows.uptoBulk]

theorem add_add (a : Addr) (m j : Nat) : (a.add m).add j = a.add (m + j) := by
 unfold Addr.add
 by_cases hm : m = 0 <;> by_cases hj : j = 0 <;> simp [hm, hj, Nat.add_assoc]
theorem mapM_some {β γ : Type} {f : β → Option γ} : ∀ {l : List β} {r : List γ}, l.mapM f = some r → r.length = l.length ∧ ∀ i (h : i < l.length), f l[i] = r[i]?
 | [], r, h => by simp at h; subst h; simp
 | b :: l, r, h => by
  rw [List.mapM_cons] at h
  simp only [Option.bind_eq_bind, Option.bind_eq_some_iff, Option.pure_def, Option.some.injEq] at h
  obtain ⟨c, hc, q, hq, rfl⟩ := h
  obtain ⟨hl, hi⟩ := mapM_some hq
  refine ⟨by simp [hl], fun i h => ?_⟩
  cases i with
  | zero => simpa using hc
  | succ i => simpa using hi i (by simpa using h)
theorem cells_get {w : World} {base : Nat} {a : Addr} {n : Nat} {cs : List Value} (h : w.cells? base a n = some cs) : cs.length = n ∧ ∀ i u, cs[i]? = some u → w.cell? (a.add i) = some u := by
 unfold World.cells? at h
 split at h
 ·obtain ⟨hl, hi⟩ := mapM_some h
  simp at hl
  refine ⟨hl, fun i u hu => ?_⟩
  have hlt : i < cs.length := (List.getElem?_eq_some_iff.1 hu).1
  have := hi i (by simp; omega)
  simpa [hu] using this
 ·cases h

theorem list_of {α : Type} {Q : Nat → α → Prop} : ∀ n, (∀ i, i < n → ∃ a, Q i a) → ∃ l : List α, l.length = n ∧ ∀ i a, l[i]? = some a → Q i a
 | 0, _ => ⟨[], rfl, fun i a h => by simp at h⟩
 | n + 1, h => by
  obtain ⟨l, hl, hq⟩ := list_of n (fun i hi => h i (by omega))
  obtain ⟨a, ha⟩ := h n (by omega)
  refine ⟨l ++ [a], by simp [hl], fun i b hb => ?_⟩
  by_cases hi : i < n
  ·rw [List.getElem?_append_left (by omega)] at hb
   exact hq i b hb
  ·have hlt := (List.getElem?_eq_some_iff.1 hb).1
   simp at hlt
   obtain rfl : i = n := by omega
   rw [List.getElem?_append_right (by omega), hl] at hb
   simp at hb
   exact hb ▸ ha
theorem all_append {l r : List Nat} {p : Nat → Bool} : (l ++ r).all p = true ↔ l.all p = true ∧ r.all p = true := by rw [List.all_append, Bool.and_eq_true]
theorem weights_all {H : Type} {P : Program} {e : TypeId} {p : Nat → Bool} : ∀ {ds : List (DataW H)}, (DataW.weightsAll P e ds).all p = true → ∀ d ∈ ds, (DataW.weights P e d).all p = true
 | [], _, d, hd => by simp at hd
 | d0 :: ds, h, d, hd => by
  rw [DataW.weightsAll, all_append] at h
  rcases List.mem_cons.1 hd with rfl | hd
  ·exact h.1
  ·exact weights_all h.2 d hd
theorem bulk_all {H α : Type} {m : α → Nat} : ∀ {l : List α} {ds : List (DataW H)}, l.length = ds.length → (∀ (i : Nat) (a : α) (y : DataW H), l[i]? = some a → ds[i]? = some y → m a ≤ Rows.uptoBulk y) → (l.map m).sum ≤ Rows.uptoBulkAll ds
 | [], [], _, _ => by simp [Rows.uptoBulkAll]
 | a :: l, d :: ds, hl, h => by
  have ih := bulk_all (l := l) (ds := ds) (by simpa using hl) (fun i a y h1 h2 => h (i + 1) a y (by simpa using h1) (by simpa using h2))
  have h0 := h 0 a d rfl rfl
  simp only [List.map_cons, List.sum_cons, Rows.uptoBulkAll]
  omega
 | [], _ :: _, hl, _ => by simp at hl
 | _ :: _, [], hl, _ => by simp at hl

theorem opens_slice {α : Type} {P : Program} {t e : TypeId} {d : Kd α} {V L : α → Prop} {m : α → Nat} (q : Nat) (b : Nat) (ht : P.underlying t = some (.slice e)) (hsz : P.cellsOf e = d.sz) (hb : P.bytesOf e = b) (ho : Opens P e d V L m) :
  Opens P t (Kd.slice q d) (fun l => ∀ a ∈ l, V a) (fun l => l.length * b ≤ 140737488351232 ∧ ∀ a ∈ l, L a) (fun l => (l.map m).sum + 1) where
 out {H enc w base spare held fuel cs x} h := by
  rcases DataW.trod_slice ht h with ⟨rfl, rfl⟩ | ⟨ad, len, cap, elems, rest, n, rfl, rfl, rfl, hbase, hlc, hcm, hlen, hel, hsp, hns⟩
  ·exact ⟨[], ⟨none, 0, rfl, Nat.le_refl _, rfl, by simp, fun h => absurd h (by simp)⟩, by simp, fun _ => by simp, by simp [Rows.uptoBulk]⟩
  obtain ⟨l, hl, hq⟩ := list_of (Q := fun i a => (∃ c, c.length = d.sz ∧ d.K w a c ∧ (∀ j u, c[j]? = some u → w.cell? (ad.add (i * d.sz + j)) = some u)) ∧ V a ∧ (∀ y, elems[i]? = some y → ((DataW.weights P e y.1).all (· ≤ reachBytes) = true → L a) ∧ m a ≤ Rows.uptoBulk y.1)) len (by
   intro i hi
   have hy : elems[i]? = some (elems[i]'(by omega)) := List.getElem?_eq_getElem (by omega)
   have h1 := hel i hi
   rw [hy, Option.bind_eq_some_iff] at h1
   obtain ⟨c, hc, hx⟩ := h1
   obtain ⟨a, hK, hV, hL, hm⟩ := ho.out hx
   obtain ⟨hcl, hcc⟩ := cells_get hc
   rw [hsz] at hcl hcc
   refine ⟨a, ⟨c, hcl, hK, fun j u hu => by rw [← add_add]; exact hcc j u hu⟩, hV, fun y hy' => ?_⟩
   rw [hy] at hy'
   obtain rfl := Option.some.inj hy'
   exact ⟨hL, hm⟩)
  have hmax : len ≤ 9223372036854775807 := by unfold maxLen at hcm; omega
  have mem : ∀ a ∈ l, ∃ i, l[i]? = some a := fun a ha => List.mem_iff_getElem?.1 ha
  refine ⟨l, ⟨some ad, cap, by rw [hl], by omega, rfl, by omega, fun _ => ⟨ad, rfl, fun j p hp => ?_⟩⟩, ?_, ?_, ?_⟩
  ·obtain ⟨⟨c, hcl, hK, hcc⟩, _⟩ := hq j p hp
   exact ⟨c, hcl, hK, hcc⟩
  ·intro a ha
   obtain ⟨i, hi⟩ := mem a ha
   exact (hq i a hi).2.1
  ·intro hw
   simp only [DataW.weights, ht, List.all_cons, Bool.and_eq_true, decide_eq_true_eq, all_append, List.length_map, hb] at hw
   obtain ⟨hw1, hw2, _⟩ := hw
   have hw1' : (elems.length + rest.length) * b ≤ 140737488351232 := hw1
   refine ⟨?_, ?_⟩
   ·rw [hl, ← hlen]
    exact Nat.le_trans (Nat.mul_le_mul_right b (Nat.le_add_right _ _)) hw1'
   ·intro a ha
    obtain ⟨i, hi⟩ := mem a ha
    have hlt : i < elems.length := by have := (List.getElem?_eq_some_iff.1 hi).1; omega
    refine ((hq i a hi).2.2 _ (List.getElem?_eq_getElem hlt)).1 (weights_all hw2 _ ?_)
    exact List.mem_map.2 ⟨_, List.getElem_mem hlt, rfl⟩
  ·have hbk : (l.map m).sum ≤ Rows.uptoBulkAll (elems.map (·.1)) := bulk_all (by rw [hl, List.length_map, hlen]) (fun i a y h1 h2 => by
    rw [List.getElem?_map, Option.map_eq_some_iff] at h2
    obtain ⟨z, hz, rfl⟩ := h2
    exact ((hq i a h1).2.2 z hz).2)
   simp only [Rows.uptoBulk]
   omega

/-- The fields of a struct, one behind the other, from a place on. -/
structure OpensF {α : Type} (P : Program) (off : Nat) (fs : List Field) (d : Kd α) (V L : α → Prop) (m : α → Nat) : Prop where
 out : ∀ {H : Type} {enc : TypeId × Value → H} {w : World} {base : Nat} {spare : Nat → Bool} {held : Bool} {fuel : Nat} {cs : List Value} {xs : List (DataW H × List MemPlace)},
  fs.mapM (fun f => DataW.trod enc P w base spare held fuel f.type ((cs.drop f.offset).take (P.cellsOf f.type))) = some xs → cs.length = off + d.sz →
  ∃ a : α, d.K w a (cs.drop off) ∧ V a ∧ ((DataW.weightsEach P (fs.map (·.type)) (xs.map (·.1))).all (· ≤ reachBytes) = true → L a) ∧ m a ≤ Rows.uptoBulkAll (xs.map (·.1))
theorem opensF_one {α : Type} {P : Program} {off : Nat} {f : Field} {d : Kd α} {V L : α → Prop} {m : α → Nat} (ho : Opens P f.type d V L m) (hoff : f.offset = off) (hsz : P.cellsOf f.type = d.sz) : OpensF P off [f] d V L m where
 out {H enc w base spare held fuel cs xs} h hl := by
  obtain ⟨h1, h2⟩ := mapM_some h
  have e : xs = [xs[0]'(by rw [h1]; simp)] := by
   apply List.ext_getElem
   ·simpa using h1
   ·intro i hi _
    have : i = 0 := by rw [h1] at hi; simpa using hi
    subst this
    rfl
  have h3 := h2 0 (by simp)
  rw [List.getElem?_eq_getElem (by rw [h1]; simp)] at h3
  simp only [List.getElem_cons_zero] at h3
  rw [hoff, hsz, List.take_of_length_le (by rw [List.length_drop]; omega)] at h3
  obtain ⟨a, hK, hV, hL, hm⟩ := ho.out h3
  refine ⟨a, hK, hV, fun hw => hL ?_, ?_⟩
  ·rw [e] at hw
   simpa [DataW.weightsEach] using hw
  ·rw [e]
   simpa [Rows.uptoBulkAll] using hm
theorem opensF_cons {α β : Type} {P : Program} {off : Nat} {f : Field} {fs : List Field} {d : Kd α} {V L : α → Prop} {m : α → Nat} {d' : Kd β} {V' L' : β → Prop} {m' : β → Nat}
  (ho : Opens P f.type d V L m) (hoff : f.offset = off) (hsz : P.cellsOf f.type = d.sz) (hr : OpensF P (off + d.sz) fs d' V' L' m') :
  OpensF P off (f :: fs) (Kd.pair d d') (fun a => V a.1 ∧ V' a.2) (fun a => L a.1 ∧ L' a.2) (fun a => m a.1 + m' a.2) where
 out {H enc w base spare held fuel cs xs} h hl := by
  rw [List.mapM_cons] at h
  simp only [Option.bind_eq_bind, Option.bind_eq_some_iff, Option.pure_def, Option.some.injEq] at h
  obtain ⟨x, hx, xs', hxs, rfl⟩ := h
  rw [hoff, hsz] at hx
  have hl' : cs.length = off + (d.sz + d'.sz) := hl
  obtain ⟨a, hK, hV, hL, hm⟩ := ho.out hx
  obtain ⟨b, hK', hV', hL', hm'⟩ := hr.out hxs (by omega)
  refine ⟨(a, b), ⟨_, _, ?_, hK, hK'⟩, ⟨hV, hV'⟩, fun hw => ?_, ?_⟩
  ·rw [← List.drop_drop, List.take_append_drop]
  ·simp only [List.map_cons, DataW.weightsEach, all_append] at hw
   exact ⟨hL hw.1, hL' hw.2⟩
  ·simp only [List.map_cons, Rows.uptoBulkAll]
   omega
theorem opens_struct {α β : Type} {P : Program} {t : TypeId} {fs : Array Field} {d : Kd α} {V L : α → Prop} {m : α → Nat} (f : β → α) (g : α → β) (hfg : ∀ a, f (g a) = a) (ht : P.underlying t = some (.struct fs)) (hsz : P.cellsOf t = d.sz) (hf : OpensF P 0 fs.toList d V L m) :
  Opens P t (Kd.iso d f) (fun b => V (f b)) (fun b => L (f b)) (fun b => m (f b) + 1) where
 out {H enc w base spare held fuel cs x} h := by
  cases fuel with
  | zero => simp [DataW.trod] at h
  | succ n =>
   unfold DataW.trod at h
   rw [ht] at h
   simp only at h
   split at h
   ·rename_i hl
    rw [Option.map_eq_some_iff] at h
    obtain ⟨xs, hxs, rfl⟩ := h
    obtain ⟨a, hK, hV, hL, hm⟩ := hf.out hxs (by omega)
    refine ⟨g a, ?_, ?_, ?_, ?_⟩
    ·show d.K w (f (g a)) cs
     rw [hfg]
     simpa using hK
    ·show V (f (g a))
     rw [hfg]; exact hV
    ·intro hw
     show L (f (g a))
     rw [hfg]
     simp only [DataW.weights, ht] at hw
     exact hL hw
    ·rw [hfg]
     simp only [Rows.uptoBulk]
     omega
   ·cases h
end Go.Proofs.Ytdecpagcaondiaa.Open
