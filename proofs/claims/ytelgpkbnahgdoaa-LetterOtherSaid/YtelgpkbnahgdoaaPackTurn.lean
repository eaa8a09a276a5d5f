import Derived.Test.YtelgpkbnahgdoaaPackDec
/- There and back, and what is cut: plain mathematics over PackDec. -/
namespace Go.Proofs.Ytelgpkbnahgdoaa.PackDec
open Go.RowKit Go.Proofs.Ytelgpkbnahgdoaa.Base Go.Proofs.Ytelgpkbnahgdoaa.PackMath Go.Proofs.YtelgpkbnahgdoaaW.PrintWords

theorem str_bytes (s : ByteArray) : strOfNums (bytesOf s) = s := by
  apply B_inj
  rw [B_nums]
  unfold bytesOf B
  rw [List.map_map]
  conv => rhs; rw [← List.map_id s.data.toList]
  apply List.map_congr_left
  intro b _
  simp
theorem bytes_inj {s t : ByteArray} (h : bytesOf s = bytesOf t) : s = t := by rw [← str_bytes s, h, str_bytes]
theorem bytes_str {l : List Int} (h : ∀ b ∈ l, 0 ≤ b ∧ b ≤ 255) : bytesOf (strOfNums l) = l := by
  have e : bytesOf (strOfNums l) = (B (strOfNums l)).map fun b => (b.toNat : Int) := rfl
  rw [e, B_nums, List.map_map]
  conv => rhs; rw [← List.map_id l]
  apply List.map_congr_left
  intro b hb
  have := h b hb
  simp
  omega
theorem bytes_extract (s : ByteArray) (i j : Nat) : bytesOf (s.extract i j) = ((bytesOf s).take j).drop i := by
  have e : ∀ t, bytesOf t = (B t).map fun b => (b.toNat : Int) := fun _ => rfl
  rw [e, e, B_extract, List.map_drop, List.map_take]
theorem extract_rest {s t : ByteArray} {q : Nat} {r : List Int} (h : rest s q = bytesOf t ++ r) : s.extract q (q + t.size) = t := by
  apply bytes_inj
  rw [bytes_extract, List.drop_take, show q + t.size - q = t.size from by omega]
  show (rest s q).take t.size = _
  rw [h, List.take_left' (bytesOf_length t)]
theorem body_cons (n : Int) (l : List Int) : body (n :: l) = plain (zig n) ++ body l := rfl
theorem tails_cons (t : ByteArray) (l : List ByteArray) : tails (t :: l) = plain t.size ++ (bytesOf t ++ tails l) := by simp [tails]
def Nums (l : List Int) : Prop := ∀ n ∈ l, -4611686018427387904 ≤ n ∧ n ≤ 4611686018427387903
def Texts (l : List ByteArray) : Prop := ∀ s ∈ l, s.size ≤ 4096
theorem decN_body {s : ByteArray} : ∀ (nums : List Int) (p : Nat) (acc r : List Int), Nums nums → rest s p = body nums ++ r → decN s nums.length p acc = (acc ++ nums, p + (body nums).length, 0)
  | [], p, acc, r, _, _ => by simp [decN, body]
  | n :: l, p, acc, r, hn, h => by
    rw [body_cons, List.append_assoc] at h
    have h0 := hn n List.mem_cons_self
    have e := rdn_plain h (zig_lt h0.1 h0.2)
    have ih := decN_body l (p + (plain (zig n)).length) (acc ++ [n]) r (fun m hm => hn m (List.mem_cons_of_mem _ hm)) (rest_step h)
    show (if (rdn s p).2.2 = 0 then decN s l.length (rdn s p).2.1 (acc ++ [zag (rdn s p).1]) else _) = _
    rw [e]
    simp only [if_true, zag_zig]
    rw [ih, body_cons]
    simp [Nat.add_assoc]
theorem txt_at {s t : ByteArray} {p : Nat} {r : List Int} (ht : t.size ≤ 4096) (h : rest s p = plain t.size ++ (bytesOf t ++ r)) : txt s p = (t, p + (plain t.size).length + t.size, 0) := by
  have e := cnt_plain h ht (by omega)
  have h2 := rest_step h
  have hl := rest_length s (p + (plain t.size).length)
  rw [h2, List.length_append, bytesOf_length] at hl
  unfold txt
  rw [e]
  simp only [if_true]
  rw [if_neg (by omega), extract_rest h2]
theorem decT_tails {s : ByteArray} : ∀ (texts : List ByteArray) (p : Nat) (acc : List ByteArray) (r : List Int), Texts texts → rest s p = tails texts ++ r → decT s texts.length p acc = (acc ++ texts, p + (tails texts).length, 0)
  | [], p, acc, r, _, _ => by simp [decT, tails]
  | t :: l, p, acc, r, hn, h => by
    rw [tails_cons, List.append_assoc, List.append_assoc] at h
    have h0 := hn t List.mem_cons_self
    have e := txt_at h0 h
    have h2 := rest_step (rest_step h)
    rw [bytesOf_length] at h2
    have ih := decT_tails l (p + (plain t.size).length + t.size) (acc ++ [t]) r (fun m hm => hn m (List.mem_cons_of_mem _ hm)) h2
    show (if (txt s p).2.2 = 0 then decT s l.length (txt s p).2.1 (acc ++ [(txt s p).1]) else _) = _
    rw [e]
    simp only [if_true]
    rw [ih, tails_cons]
    simp [Nat.add_assoc, bytesOf_length]
theorem rest_zero (s : ByteArray) : rest s 0 = bytesOf s := rfl
/-- What is encoded, and what stands behind. -/
theorem dec_enc {s : ByteArray} {nums : List Int} {texts : List ByteArray} {r : List Int} (hc : chk nums texts = 0) (h : bytesOf s = enc nums texts ++ r) : dec s = if r = [] then (nums, texts, 0, 0) else ([], [], (enc nums texts).length, 3) := by
  obtain ⟨h1, h2, h3, h4⟩ := chk_ok hc
  have h0 : rest s 0 = plain nums.length ++ (body nums ++ (plain texts.length ++ (tails texts ++ r))) := by
    rw [rest_zero, h]; simp [enc, List.append_assoc]
  have e1 := cnt_plain (most := 1024) h0 h1 (by omega)
  have r1 := rest_step h0
  have e2 := decN_body nums _ [] _ h3 r1
  have r2 := rest_step r1
  have e3 := cnt_plain (most := 1024) r2 h2 (by omega)
  have r3 := rest_step r2
  have e4 := decT_tails texts _ [] _ h4 r3
  have r4 := rest_step r3
  have hl := rest_length s (0 + (plain nums.length).length + (body nums).length + (plain texts.length).length + (tails texts).length)
  rw [r4] at hl
  have hlen : (enc nums texts).length = 0 + (plain nums.length).length + (body nums).length + (plain texts.length).length + (tails texts).length := by simp only [enc, List.length_append]; omega
  have hs : s.size = (enc nums texts).length + r.length := by rw [← bytesOf_length, h, List.length_append]
  rw [dec_of e1 e2 e3 e4, ← hlen]
  by_cases hr : r = []
  · subst hr
    rw [if_pos rfl, if_neg (by simp at hs; omega)]
    simp
  · have : 0 < r.length := List.length_pos_iff.2 hr
    rw [if_neg hr, if_pos (by omega)]
theorem decN_ok {s : ByteArray} : ∀ (m p : Nat) (acc xs : List Int) (q : Nat), decN s m p acc = (xs, q, 0) → ∃ nums, xs = acc ++ nums ∧ nums.length = m ∧ Nums nums ∧ rest s p = body nums ++ rest s q
  | 0, p, acc, xs, q, h => by
    simp only [decN, Prod.mk.injEq, and_true] at h
    obtain ⟨rfl, rfl⟩ := h
    exact ⟨[], by simp, rfl, fun n hn => by simp at hn, rfl⟩
  | m + 1, p, acc, xs, q, h => by
    have h' : (if (rdn s p).2.2 = 0 then decN s m (rdn s p).2.1 (acc ++ [zag (rdn s p).1]) else (acc, (rdn s p).2.1, (rdn s p).2.2)) = (xs, q, 0) := h
    by_cases he : (rdn s p).2.2 = 0
    · rw [if_pos he] at h'
      obtain ⟨nums, rfl, rfl, hn, hr⟩ := decN_ok m _ _ xs q h'
      obtain ⟨hv, hq, r, hp⟩ := rdn_ok he
      have hr2 := rest_step hp
      rw [← hq] at hr2
      refine ⟨zag (rdn s p).1 :: nums, by simp, by simp, fun n hm => ?_, ?_⟩
      · rcases List.mem_cons.1 hm with rfl | hm
        · exact zag_range hv
        · exact hn n hm
      · rw [body_cons, zig_zag, List.append_assoc, ← hr, hr2]; exact hp
    · rw [if_neg he] at h'
      simp only [Prod.mk.injEq] at h'
      exact absurd h'.2.2 he
theorem txt_ok {s : ByteArray} {p : Nat} (h : (txt s p).2.2 = 0) : (txt s p).1.size ≤ 4096 ∧ rest s p = plain (txt s p).1.size ++ (bytesOf (txt s p).1 ++ rest s (txt s p).2.1) := by
  unfold txt at h ⊢
  by_cases he : (cnt s p 4096).2.2 = 0
  · rw [if_pos he] at h ⊢
    by_cases hl : s.size - (cnt s p 4096).2.1 < (cnt s p 4096).1
    · rw [if_pos hl] at h; simp at h
    · rw [if_neg hl]
      obtain ⟨e1, e2, e3⟩ := cnt_ok he
      obtain ⟨hv, hq, r, hp⟩ := rdn_ok e2
      rw [e1] at hl ⊢
      generalize (rdn s p).1 = v at *
      have hr := rest_step hp
      rw [← hq] at hr
      generalize (rdn s p).2.1 = q at *
      have hrl := rest_length s q
      rw [hr] at hrl
      have hsz : (s.extract q (q + v)).size = v := by rw [ByteArray.size_extract]; omega
      show (s.extract q (q + v)).size ≤ 4096 ∧ rest s p = plain (s.extract q (q + v)).size ++ (bytesOf (s.extract q (q + v)) ++ rest s (q + v))
      rw [hsz]
      refine ⟨e3, ?_⟩
      rw [hp]
      congr 1
      rw [bytes_extract, List.drop_take, show q + v - q = v from by omega]
      have e : (bytesOf s).drop q = r := hr
      have e2 : rest s (q + v) = r.drop v := by rw [← e, List.drop_drop]; rfl
      rw [e, e2, List.take_append_drop]
  · rw [if_neg he] at h; exact absurd h he
theorem decT_ok {s : ByteArray} : ∀ (m p : Nat) (acc xs : List ByteArray) (q : Nat), decT s m p acc = (xs, q, 0) → ∃ texts, xs = acc ++ texts ∧ texts.length = m ∧ Texts texts ∧ rest s p = tails texts ++ rest s q
  | 0, p, acc, xs, q, h => by
    simp only [decT, Prod.mk.injEq, and_true] at h
    obtain ⟨rfl, rfl⟩ := h
    exact ⟨[], by simp, rfl, fun n hn => by simp at hn, rfl⟩
  | m + 1, p, acc, xs, q, h => by
    have h' : (if (txt s p).2.2 = 0 then decT s m (txt s p).2.1 (acc ++ [(txt s p).1]) else (acc, (txt s p).2.1, (txt s p).2.2)) = (xs, q, 0) := h
    by_cases he : (txt s p).2.2 = 0
    · rw [if_pos he] at h'
      obtain ⟨texts, rfl, rfl, hn, hr⟩ := decT_ok m _ _ xs q h'
      obtain ⟨hv, hp⟩ := txt_ok he
      refine ⟨(txt s p).1 :: texts, by simp, by simp, fun n hm => ?_, ?_⟩
      · rcases List.mem_cons.1 hm with rfl | hm
        · exact hv
        · exact hn n hm
      · rw [tails_cons, List.append_assoc, List.append_assoc, ← hr]; exact hp
    · rw [if_neg he] at h'
      simp only [Prod.mk.injEq] at h'
      exact absurd h'.2.2 he
/-- What is decoded is encoded as just those bytes. -/
theorem enc_dec {s : ByteArray} (h : (dec s).2.2.2 = 0) : ∃ ns ts, dec s = (ns, ts, 0, 0) ∧ chk ns ts = 0 ∧ bytesOf s = enc ns ts := by
  obtain ⟨m, p, q, n, u, r, xs, ys, h1, h2, h3, h4, hr, hd⟩ := dec_ok h
  obtain ⟨c1, c2, c3⟩ := cnt_ok (s := s) (p := 0) (most := 1024) (by rw [h1])
  obtain ⟨_, a2, r1, a3⟩ := rdn_ok c2
  have b1 := rest_step a3
  rw [← a2] at b1
  rw [← c1, h1] at a2 a3 c3 b1
  obtain ⟨ns, e1, e2, hn, g1⟩ := decN_ok m p [] xs q h2
  obtain ⟨d1, d2, d3⟩ := cnt_ok (s := s) (p := q) (most := 1024) (by rw [h3])
  obtain ⟨_, f2, r2, f3⟩ := rdn_ok d2
  have b2 := rest_step f3
  rw [← f2] at b2
  rw [← d1, h3] at f2 f3 d3 b2
  obtain ⟨ts, e3, e4, ht, g2⟩ := decT_ok n u [] ys r h4
  simp only [List.nil_append] at e1 e3
  subst e1 e3
  simp only at a2 a3 b1 c3 f2 f3 b2 d3
  refine ⟨xs, ys, hd, chk_of (by omega) (by omega) hn ht, ?_⟩
  have hz : rest s r = [] := List.drop_of_length_le (by rw [bytesOf_length]; exact hr)
  rw [← rest_zero, a3, ← b1, g1, f3, ← b2, g2, hz, ← e2, ← e4]
  simp [enc, List.append_assoc]
theorem split_app {α : Type} : ∀ (a z l y : List α) (x : α), a ++ z = l ++ x :: y → (∃ r, l = a ++ r ∧ z = r ++ x :: y) ∨ ∃ x' y', a = l ++ x' :: y'
  | [], z, l, y, x, h => Or.inl ⟨l, rfl, h⟩
  | b :: a, z, [], y, x, h => Or.inr ⟨b, a, rfl⟩
  | b :: a, z, c :: l, y, x, h => by
    simp only [List.cons_append, List.cons.injEq] at h
    obtain ⟨rfl, h⟩ := h
    rcases split_app a z l y x h with ⟨r, rfl, hz⟩ | ⟨x', y', rfl⟩
    · exact Or.inl ⟨r, rfl, hz⟩
    · exact Or.inr ⟨x', y', rfl⟩
theorem decN_cut {s : ByteArray} : ∀ (nums : List Int) (p : Nat) (acc z y : List Int) (x : Int), Nums nums → body nums ++ z = rest s p ++ x :: y → (∃ r, rest s p = body nums ++ r ∧ z = r ++ x :: y) ∨ (decN s nums.length p acc).2 = (s.size, 50)
  | [], p, acc, z, y, x, _, h => Or.inl ⟨rest s p, rfl, h⟩
  | n :: l, p, acc, z, y, x, hn, h => by
    have h0 := hn n List.mem_cons_self
    have hz := zig_lt h0.1 h0.2
    rw [body_cons, List.append_assoc] at h
    rcases split_app _ _ _ _ _ h with ⟨r, hr, hz2⟩ | ⟨x', y', hp⟩
    · have e := rdn_plain hr hz
      have hr2 := rest_step hr
      rcases decN_cut l (p + (plain (zig n)).length) (acc ++ [n]) z y x (fun m hm => hn m (List.mem_cons_of_mem _ hm)) (by rw [hr2]; exact hz2) with ⟨r', h1, h2⟩ | h1
      · left
        refine ⟨r', ?_, h2⟩
        rw [hr, body_cons, List.append_assoc, ← h1, hr2]
      · right
        show (if (rdn s p).2.2 = 0 then decN s l.length (rdn s p).2.1 (acc ++ [zag (rdn s p).1]) else _).2 = _
        rw [e]
        simp only [if_true, zag_zig]
        exact h1
    · right
      have e := rdn_cut hp hz
      show (if (rdn s p).2.2 = 0 then decN s l.length (rdn s p).2.1 (acc ++ [zag (rdn s p).1]) else (acc, (rdn s p).2.1, (rdn s p).2.2)).2 = _
      rw [e]
      rfl
theorem txt_cut {s t : ByteArray} {p : Nat} {z y : List Int} {x : Int} (ht : t.size ≤ 4096) (h : plain t.size ++ (bytesOf t ++ z) = rest s p ++ x :: y) : (∃ r, rest s p = plain t.size ++ (bytesOf t ++ r) ∧ z = r ++ x :: y) ∨ (txt s p).2 = (s.size, 50) := by
  rcases split_app _ _ _ _ _ h with ⟨r, hr, hz⟩ | ⟨x', y', hp⟩
  · rcases split_app _ _ _ _ _ hz with ⟨r', rfl, hz'⟩ | ⟨x', y', hp⟩
    · exact Or.inl ⟨r', hr, hz'⟩
    · right
      have e := cnt_plain hr ht (by omega)
      have h2 := rest_step hr
      have hl := rest_length s (p + (plain t.size).length)
      rw [h2] at hl
      have hl2 : t.size = r.length + (y'.length + 1) := by rw [← bytesOf_length, hp]; simp
      unfold txt
      rw [e]
      simp only [if_true]
      rw [if_pos (by omega)]
  · right
    have e := cnt_cut (most := 4096) hp (by omega)
    unfold txt
    rw [e]
    rfl
theorem decT_cut {s : ByteArray} : ∀ (texts : List ByteArray) (p : Nat) (acc : List ByteArray) (z y : List Int) (x : Int), Texts texts → tails texts ++ z = rest s p ++ x :: y → (∃ r, rest s p = tails texts ++ r ∧ z = r ++ x :: y) ∨ (decT s texts.length p acc).2 = (s.size, 50)
  | [], p, acc, z, y, x, _, h => Or.inl ⟨rest s p, rfl, h⟩
  | t :: l, p, acc, z, y, x, hn, h => by
    have h0 := hn t List.mem_cons_self
    rw [tails_cons, List.append_assoc, List.append_assoc] at h
    rcases txt_cut h0 h with ⟨r, hr, hz2⟩ | ht
    · have e := txt_at h0 hr
      have hr2 := rest_step (rest_step hr)
      rw [bytesOf_length] at hr2
      rcases decT_cut l (p + (plain t.size).length + t.size) (acc ++ [t]) z y x (fun m hm => hn m (List.mem_cons_of_mem _ hm)) (by rw [hr2]; exact hz2) with ⟨r', h1, h2⟩ | h1
      · left
        refine ⟨r', ?_, h2⟩
        rw [hr, tails_cons, List.append_assoc, List.append_assoc, ← h1, hr2]
      · right
        show (if (txt s p).2.2 = 0 then decT s l.length (txt s p).2.1 (acc ++ [(txt s p).1]) else _).2 = _
        rw [e]
        simp only [if_true]
        exact h1
    · right
      show (if (txt s p).2.2 = 0 then decT s l.length (txt s p).2.1 (acc ++ [(txt s p).1]) else (acc, (txt s p).2.1, (txt s p).2.2)).2 = _
      rw [if_neg (by rw [ht]; simp)]
      exact ht
/-- A beginning of a pack's bytes ends early, at its end. -/
theorem dec_cut {s : ByteArray} {nums : List Int} {texts : List ByteArray} {x : Int} {y : List Int} (hc : chk nums texts = 0) (h : enc nums texts = bytesOf s ++ x :: y) : dec s = ([], [], s.size, 50) := by
  obtain ⟨h1, h2, h3, h4⟩ := chk_ok hc
  have h0 : plain nums.length ++ (body nums ++ (plain texts.length ++ (tails texts ++ []))) = rest s 0 ++ x :: y := by
    rw [rest_zero, ← h]; simp [enc, List.append_assoc]
  unfold dec
  rcases split_app _ _ _ _ _ h0 with ⟨r, hr, hz⟩ | ⟨x', y', hp⟩
  · have e1 := cnt_plain (most := 1024) hr h1 (by omega)
    have r1 := rest_step hr
    simp only [e1, if_true]
    rw [← r1] at hz
    rcases decN_cut nums _ [] _ _ _ h3 hz with ⟨r', hr', hz'⟩ | hd
    · have e2 := decN_body nums _ [] _ h3 hr'
      simp only [e2, if_true]
      have r2 := rest_step hr'
      rw [← r2] at hz'
      rcases split_app _ _ _ _ _ hz' with ⟨r3, hr3, hz3⟩ | ⟨x', y', hp⟩
      · have e3 := cnt_plain (most := 1024) hr3 h2 (by omega)
        have r4 := rest_step hr3
        simp only [e3, if_true]
        rw [← r4] at hz3
        rcases decT_cut texts _ [] _ _ _ h4 hz3 with ⟨r5, _, hz5⟩ | hd
        · exact absurd hz5 (by simp)
        · rw [if_neg (by rw [hd]; simp), hd]
      · have e3 := cnt_cut (most := 1024) hp (by omega)
        simp only [e3]
        rfl
    · rw [if_neg (by rw [hd]; simp), hd]
  · have e1 := cnt_cut (most := 1024) hp (by omega)
    simp only [e1]
    rfl
theorem rdn_le {s : ByteArray} {p : Nat} (hp : p ≤ s.size) : (rdn s p).2.1 ≤ s.size := by
  by_cases he : (rdn s p).2.2 = 0
  · obtain ⟨_, hq, r, h⟩ := rdn_ok he
    have hl := rest_length s p
    rw [h, List.length_append] at hl
    omega
  · unfold rdn at he ⊢
    simp only at he ⊢
    rw [if_neg he]
    split <;> omega
theorem cnt_le {s : ByteArray} {p most : Nat} (hp : p ≤ s.size) : (cnt s p most).2.1 ≤ s.size := by
  unfold cnt
  split
  · exact hp
  · exact rdn_le hp
theorem decN_le {s : ByteArray} : ∀ (m p : Nat) (acc : List Int), p ≤ s.size → (decN s m p acc).2.1 ≤ s.size
  | 0, p, acc, h => h
  | m + 1, p, acc, h => by
    unfold decN
    split
    · exact decN_le m _ _ (rdn_le h)
    · exact rdn_le h
theorem txt_le {s : ByteArray} {p : Nat} (hp : p ≤ s.size) : (txt s p).2.1 ≤ s.size := by
  have := cnt_le (most := 4096) hp
  unfold txt
  split
  · split
    · exact Nat.le_refl _
    · simp only; omega
  · exact this
theorem decT_le {s : ByteArray} : ∀ (m p : Nat) (acc : List ByteArray), p ≤ s.size → (decT s m p acc).2.1 ≤ s.size
  | 0, p, acc, h => h
  | m + 1, p, acc, h => by
    unfold decT
    split
    · exact decT_le m _ _ (txt_le h)
    · exact txt_le h
theorem dec_le (s : ByteArray) : (dec s).2.2.1 ≤ s.size := by
  have h1 := cnt_le (s := s) (p := 0) (most := 1024) (Nat.zero_le _)
  have h2 := decN_le (cnt s 0 1024).1 _ [] h1
  have h3 := cnt_le (most := 1024) h2
  have h4 := decT_le (cnt s (decN s (cnt s 0 1024).1 (cnt s 0 1024).2.1 []).2.1 1024).1 _ [] h3
  unfold dec
  repeat (first | exact h1 | exact h2 | exact h3 | exact h4 | exact Nat.zero_le _ | split)
end Go.Proofs.Ytelgpkbnahgdoaa.PackDec
