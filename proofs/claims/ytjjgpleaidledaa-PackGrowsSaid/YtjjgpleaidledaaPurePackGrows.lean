/- For every pack and every text: a pack with a text more has just that text's bytes, and its length's, more. No condition. -/
import Derived.Test.YtjjgpleaidledaaPackWorks
import Derived.Test.YtjjgpleaidledaaFcorncriblaw06PackGrows
namespace Go.Proofs.Ytjjgpleaidledaa.Pure
open Go.RowKit Go.Proofs.Ytjjgpleaidledaa.Base Go.Proofs.Ytjjgpleaidledaa.PackMath Go.Proofs.Ytjjgpleaidledaa.PackFns Go.Proofs.Ytjjgpleaidledaa.Al Go.Proofs.YtjjgpleaidledaaW.PrintWords
theorem tails_snoc (l : List ByteArray) (s : ByteArray) : tails (l ++ [s]) = tails l ++ (plain s.size ++ bytesOf s) := by simp [tails]
theorem B_bytesOf (s : ByteArray) : (bytesOf s).map (fun n => UInt8.ofNat n.toNat) = B s := by
  unfold bytesOf B
  rw [List.map_map]
  conv => rhs; rw [← List.map_id s.data.toList]
  apply List.map_congr_left
  intro b _
  simp
theorem grows_core (nums : List Int) (texts : List ByteArray) (s : ByteArray) (ht : texts.length < 127) (hs : s.size ≤ 4096) (hok : chk nums texts = 0) :
    chk nums (texts ++ [s]) = 0 ∧ enc nums (texts ++ [s]) = (plain nums.length ++ body nums ++ plain (texts.length + 1) ++ tails texts) ++ plain s.size ++ bytesOf s ∧ (plain texts.length).length = 1 ∧ (plain (texts.length + 1)).length = 1 ∧ (plain s.size).length = (if 127 < s.size then 2 else 1) := by
  obtain ⟨h1, h2, h3, h4⟩ := chk_ok hok
  refine ⟨chk_of h1 (by simp; omega) h3 ?_, ?_, ?_, ?_, ?_⟩
  · intro t htm
    rcases List.mem_append.1 htm with h | h
    · exact h4 t h
    · obtain rfl := List.mem_singleton.1 h
      exact hs
  · unfold enc
    rw [tails_snoc, List.length_append]
    simp
  · rw [plain_small (by omega)]; rfl
  · rw [plain_small (by omega)]; rfl
  · by_cases h : 127 < s.size
    · rw [if_pos h, plain_big (by omega), plain_small (by omega)]; rfl
    · rw [if_neg h, plain_small (by omega)]; rfl
theorem PackGrowsCore (nums : List Int) (texts : List ByteArray) (s : ByteArray) : ∃ k, corncriblaw06_PackGrows.f k nums texts s = some true := by
  refine Ev.rounds (g := fun k => corncriblaw06_PackGrows.f k nums texts s) ?_
  have early : Ev (fun k => corncriblaw06_PackGrows.j0 k s true nums texts) true := Ev.step (fun k => by simp only [corncriblaw06_PackGrows.j0, if_true]) (Ev.now _)
  unfold corncriblaw06_PackGrows.f
  refine Ev.bind packWorks_ev (Ev.pos rfl ?_)
  by_cases ht : texts.length < 127
  case neg => exact Ev.pos (by omega) early
  refine Ev.neg (by omega) ?_
  by_cases hs : s.size ≤ 4096
  case neg => rw [decide_eq_true (by omega)]; exact early
  rw [decide_eq_false (by omega)]
  refine Ev.step (fun k => by simp only [corncriblaw06_PackGrows.j0]; rw [if_neg (by simp)]) ?_
  have he := encode_ev nums texts
  by_cases hok : chk nums texts = 0
  case neg =>
    unfold encB at he
    rw [if_neg hok] at he
    exact Ev.bind he (Ev.neg hok (Ev.now _))
  obtain ⟨g1, g2, g3, g4, g5⟩ := grows_core nums texts s ht hs hok
  have he2 := encode_ev nums (texts ++ [s])
  unfold encB at he he2
  rw [if_pos hok] at he
  rw [if_pos g1, g2] at he2
  have hl := enc_len hok
  have z1 : (strOfNums (enc nums texts)).size = (plain nums.length).length + (body nums).length + 1 + (tails texts).length := by
    rw [strOfNums_size]; unfold enc; simp only [List.length_append, g3]
  have z0 := strOfNums_size (enc nums texts)
  have z2 : (strOfNums ((plain nums.length ++ body nums ++ plain (texts.length + 1) ++ tails texts) ++ plain s.size ++ bytesOf s)).size = (strOfNums (enc nums texts)).size + (if 127 < s.size then 2 else 1) + s.size := by
    rw [strOfNums_size, z1]; simp only [List.length_append, g4, g5, bytesOf_length]
  obtain ⟨b, hb⟩ : ∃ b, b = strOfNums ((plain nums.length ++ body nums ++ plain (texts.length + 1) ++ tails texts) ++ plain s.size ++ bytesOf s) := ⟨_, rfl⟩
  obtain ⟨a, ha⟩ : ∃ a, a = strOfNums (enc nums texts) := ⟨_, rfl⟩
  have hend : b.extract (b.size - s.size) b.size = s := by
    apply B_inj
    rw [B_extract, ← B_len b, List.take_length]
    have hB : B b = B (strOfNums ((plain nums.length ++ body nums ++ plain (texts.length + 1) ++ tails texts) ++ plain s.size)) ++ B s := by
      rw [hb, B_nums, B_nums, List.map_append, B_bytesOf]
    rw [hB, List.length_append, B_len s, Nat.add_sub_cancel, List.drop_left]
  rw [← hb] at he2 z2
  rw [← ha] at he z2 z0
  refine Ev.bind he (Ev.pos rfl (Ev.some_bind (Ev.pos (by simp; omega) (Ev.some_bind (Ev.some_bind (Ev.pos (by simp; omega) ?_))))))
  have e : ([] ++ texts) ++ [s] = texts ++ [s] := by simp
  rw [e]
  refine Ev.bind he2 ?_
  have fin : ∀ h : Nat, b.size = a.size + h + s.size → h ≤ 2 → Ev (fun _ => if ((b.size : Int)) = (wrap64 ((wrap64 ((a.size : Int) + h)) + (s.size : Int))) then (if 0 ≤ (wrap64 ((b.size : Int) - (s.size : Int))) then (if (wrap64 ((b.size : Int) - (s.size : Int))) ≤ (b.size : Int) then (some ((b.extract ((wrap64 ((b.size : Int) - (s.size : Int))) : Int).toNat b.size).toList == s.toList)) else (none)) else (none)) else (some false)) true := by
    intro h hz hh
    have e1 : wrap64 ((b.size : Int) - (s.size : Int)) = ((b.size - s.size : Nat) : Int) := by rw [wrap_id (by omega) (by omega)]; omega
    rw [e1, wrap_id (n := (a.size : Int) + h) (by omega) (by omega), wrap_id (by omega) (by omega)]
    refine Ev.pos (by omega) (Ev.pos (by omega) (Ev.pos (by omega) ?_))
    rw [Int.toNat_natCast, hend]
    simpa using Ev.now true
  by_cases h127 : 127 < s.size
  · rw [if_pos h127] at z2
    exact Ev.pos (by omega) (Ev.pos rfl (fin 2 z2 (by omega)))
  · rw [if_neg h127] at z2
    exact Ev.neg (by omega) (Ev.pos rfl (fin 1 z2 (by omega)))
theorem PackGrows (p1 : List Int) (p2 : List ByteArray) (s : ByteArray) (_ : (∀ a ∈ p1, (Lit.int .i64 a).wf = true) ∧ ∀ a ∈ p2, a.size ≤ maxLen) (_ : s.size ≤ maxLen)
    (_ : (p1.length * 8 ≤ 140737488351232 ∧ ∀ a ∈ p1, True) ∧ p2.length * 16 ≤ 140737488351232 ∧ ∀ a ∈ p2, a.size ≤ 140737488351232) (_ : s.size ≤ 140737488351232) : ∃ k, corncriblaw06_PackGrows.f k p1 p2 s = some true := PackGrowsCore p1 p2 s
end Go.Proofs.Ytjjgpleaidledaa.Pure
