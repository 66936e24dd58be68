/- Reading a line: what its words are, whatever it says. -/
import Derived.Test.YtenigkhfldafaaaDoorR0
namespace Go.Proofs.YtenigkhfldafaaaDoor.A
open Go.RowKit Go.Proofs.YtenigkhfldafaaaDoorW.PrintWords
set_option maxRecDepth 100000
theorem nums_data (xs : List Int) : strOfNums xs = B (xs.map fun n => UInt8.ofNat n.toNat) := rfl
theorem nums_size (xs : List Int) : (strOfNums xs).size = xs.length := by rw [nums_data, B_size, List.length_map]
theorem text_tot (s : ByteArray) (hs : s.size ≤ 100000) : ∀ (d n : Nat) (acc : List Int), s.size - n ≤ d → n ≤ s.size → acc.length ≤ n →
    ∃ (kd : Int) (str : ByteArray) (num : Int) (ok : Bool) (n' : Nat), Ev (fun k => shell_line_text.l0 k acc s (n : Int)) (kd, str, num, ok, s, (n' : Int)) ∧ n ≤ n' ∧ n' ≤ s.size ∧ (ok = true → kd = 2 ∧ str.size ≤ s.size) := by
  intro d
  induction d with
  | zero =>
    intro n acc hd hn _
    exact ⟨0, _, 0, false, n, Ev.step (fun k => shell_line_text.l0.eq_2 _ _ _ _) (Ev.cb (end_y (by omega)) (Ev.ifp rfl (Ev.now _))), Nat.le_refl _, hn, fun h => by cases h⟩
  | succ d ih =>
    intro n acc hd hn ha
    by_cases h : s.size ≤ n
    · exact ⟨0, _, 0, false, n, Ev.step (fun k => shell_line_text.l0.eq_2 _ _ _ _) (Ev.cb (end_y h) (Ev.ifp rfl (Ev.now _))), Nat.le_refl _, hn, fun h => by cases h⟩
    have hlt : n < s.size := by omega
    have e1 := w1 (n := n) (by omega)
    by_cases h34 : bt s (n : Int) = 34
    · by_cases hz : s.size ≤ n + 1
      · exact ⟨2, strOfNums acc, 0, true, n + 1, Ev.step (fun k => shell_line_text.l0.eq_2 _ _ _ _) (Ev.cb (end_n hlt) (Ev.ifn Bool.false_ne_true (Ev.ifp (Int.natCast_nonneg n) (Ev.ifp (Int.ofNat_lt.2 hlt) (Ev.ifp h34 (by simp only [e1]; exact Ev.cb (end_y hz) (Ev.ifp rfl (Ev.now _)))))))), by omega, by omega, fun _ => ⟨rfl, by rw [nums_size]; omega⟩⟩
      · obtain ⟨c, hc⟩ := bt_u8 (s := s) (n := n + 1) (by omega)
        by_cases hg : gapB c = true
        · exact ⟨2, strOfNums acc, 0, true, n + 1, Ev.step (fun k => shell_line_text.l0.eq_2 _ _ _ _) (Ev.cb (end_n hlt) (Ev.ifn Bool.false_ne_true (Ev.ifp (Int.natCast_nonneg n) (Ev.ifp (Int.ofNat_lt.2 hlt) (Ev.ifp h34 (by simp only [e1]; exact Ev.cb (end_n (by omega)) (Ev.ifn Bool.false_ne_true (Ev.ifp (Int.natCast_nonneg _) (Ev.ifp (Int.ofNat_lt.2 (by omega)) (Ev.cb (by rw [hc]; exact blank_f c) (Ev.ifp hg (Ev.now _)))))))))))), by omega, by omega, fun _ => ⟨rfl, by rw [nums_size]; omega⟩⟩
        · exact ⟨2, strOfNums acc, 0, _, n + 1, Ev.step (fun k => shell_line_text.l0.eq_2 _ _ _ _) (Ev.cb (end_n hlt) (Ev.ifn Bool.false_ne_true (Ev.ifp (Int.natCast_nonneg n) (Ev.ifp (Int.ofNat_lt.2 hlt) (Ev.ifp h34 (by simp only [e1]; exact Ev.cb (end_n (by omega)) (Ev.ifn Bool.false_ne_true (Ev.ifp (Int.natCast_nonneg _) (Ev.ifp (Int.ofNat_lt.2 (by omega)) (Ev.cb (by rw [hc]; exact blank_f c) (Ev.ifn hg (Ev.now _)))))))))))), by omega, by omega, fun _ => ⟨rfl, by rw [nums_size]; omega⟩⟩
    by_cases h92 : bt s (n : Int) = 92
    · obtain ⟨v, ok, n', e, g1, g2, g3⟩ := esc_tot s hs (n + 1) (by omega)
      by_cases hok : ok = true
      · obtain ⟨kd, str, num, ok', n2, e', k1, k2, k3⟩ := ih n' (acc ++ [v]) (by omega) g2 (by rw [List.length_append]; have := g3 hok; simp only [List.length_singleton]; omega)
        exact ⟨kd, str, num, ok', n2, Ev.step (fun k => shell_line_text.l0.eq_2 _ _ _ _) (Ev.cb (end_n hlt) (Ev.ifn Bool.false_ne_true (Ev.ifp (Int.natCast_nonneg n) (Ev.ifp (Int.ofNat_lt.2 hlt) (Ev.ifn h34 (Ev.ifp h92 (Ev.bind (by simp only [e1]; exact e) (Ev.ifp hok (Ev.ifp (by omega) e'))))))))), by omega, k2, k3⟩
      · exact ⟨0, _, 0, false, n', Ev.step (fun k => shell_line_text.l0.eq_2 _ _ _ _) (Ev.cb (end_n hlt) (Ev.ifn Bool.false_ne_true (Ev.ifp (Int.natCast_nonneg n) (Ev.ifp (Int.ofNat_lt.2 hlt) (Ev.ifn h34 (Ev.ifp h92 (Ev.bind (by simp only [e1]; exact e) (Ev.ifn hok (Ev.now _))))))))), by omega, g2, fun h => by cases h⟩
    by_cases h32 : bt s (n : Int) < 32
    · exact ⟨0, _, 0, false, n + 1, Ev.step (fun k => shell_line_text.l0.eq_2 _ _ _ _) (Ev.cb (end_n hlt) (Ev.ifn Bool.false_ne_true (Ev.ifp (Int.natCast_nonneg n) (Ev.ifp (Int.ofNat_lt.2 hlt) (Ev.ifn h34 (Ev.ifn h92 (Ev.ifp h32 (by simp only [e1]; exact Ev.now _)))))))), by omega, by omega, fun h => by cases h⟩
    by_cases h126 : bt s (n : Int) > 126
    · exact ⟨0, _, 0, false, n + 1, Ev.step (fun k => shell_line_text.l0.eq_2 _ _ _ _) (Ev.cb (end_n hlt) (Ev.ifn Bool.false_ne_true (Ev.ifp (Int.natCast_nonneg n) (Ev.ifp (Int.ofNat_lt.2 hlt) (Ev.ifn h34 (Ev.ifn h92 (Ev.ifn h32 (Ev.ifp h126 (by simp only [e1]; exact Ev.now _))))))))), by omega, by omega, fun h => by cases h⟩
    obtain ⟨kd, str, num, ok', n2, e', k1, k2, k3⟩ := ih (n + 1) (acc ++ [bt s (n : Int)]) (by omega) (by omega) (by rw [List.length_append]; simp only [List.length_singleton]; omega)
    exact ⟨kd, str, num, ok', n2, Ev.step (fun k => shell_line_text.l0.eq_2 _ _ _ _) (Ev.cb (end_n hlt) (Ev.ifn Bool.false_ne_true (Ev.ifp (Int.natCast_nonneg n) (Ev.ifp (Int.ofNat_lt.2 hlt) (Ev.ifn h34 (Ev.ifn h92 (Ev.ifn h32 (Ev.ifn h126 (Ev.ifp (by omega) (by simp only [e1]; exact e')))))))))), by omega, k2, k3⟩
theorem bytes_rd (t : ByteArray) (i : Nat) (h : i < t.size) : rd (bytesOf t) (i : Int) = bt t (i : Int) := by
  have hl : i < t.toList.length := by rw [size_list]; exact h
  rw [bt_list t i hl]
  unfold rd bytesOf
  simp only [Int.toNat_natCast, ← ByteArray.toList_eq]
  simp [List.getD_eq_getElem?_getD, hl]
theorem counted_l (s t : ByteArray) (ht : t.size ≤ 18) : ∀ (d i : Nat) (x : Int), i + d = t.size → 0 ≤ x → x < 10 ^ i →
    ∃ (n : Int) (ok : Bool), Ev (fun k => shell_counted.l0 k s t x (bytesOf t) (t.size : Int) (i : Int)) (n, ok) ∧ (ok = true → -1000000000000000000 < n ∧ n < 1000000000000000000) := by
  intro d
  induction d with
  | zero =>
    intro i x hi h0 h1
    have hx : x < 1000000000000000000 := by
      have : (10 : Int) ^ i ≤ 10 ^ 18 := by
        have := Nat.pow_le_pow_right (n := 10) (by decide) (show i ≤ 18 by omega)
        have := Int.ofNat_le.2 this
        simpa using this
      omega
    by_cases hz : (t.size : Int) < (s.size : Int)
    · refine ⟨-x, true, Ev.step (fun k => shell_counted.l0.eq_2 _ _ _ _ _ _ _) (Ev.ifn (by omega) (Ev.ifp hz ?_)), fun _ => by omega⟩
      rw [wrap_small (by omega) (by omega)]
      exact Ev.now _
    · exact ⟨x, true, Ev.step (fun k => shell_counted.l0.eq_2 _ _ _ _ _ _ _) (Ev.ifn (by omega) (Ev.ifn hz (Ev.now _))), fun _ => by omega⟩
  | succ d ih =>
    intro i x hi h0 h1
    have hl : (bytesOf t).length = t.size := bytesOf_length t
    by_cases h48 : rd (bytesOf t) (i : Int) < 48
    · exact ⟨0, false, Ev.step (fun k => shell_counted.l0.eq_2 _ _ _ _ _ _ _) (Ev.ifp (by omega) (Ev.ifp (by omega) (Ev.ifp (by rw [hl]; omega) (Ev.ifp h48 (Ev.now _))))), fun h => by cases h⟩
    by_cases h57 : rd (bytesOf t) (i : Int) > 57
    · exact ⟨0, false, Ev.step (fun k => shell_counted.l0.eq_2 _ _ _ _ _ _ _) (Ev.ifp (by omega) (Ev.ifp (by omega) (Ev.ifp (by rw [hl]; omega) (Ev.ifn h48 (Ev.ifp h57 (Ev.now _)))))), fun h => by cases h⟩
    have hx : x < 100000000000000000 := by
      have : (10 : Int) ^ i ≤ 10 ^ 17 := by
        have := Nat.pow_le_pow_right (n := 10) (by decide) (show i ≤ 17 by omega)
        have := Int.ofNat_le.2 this
        simpa using this
      omega
    obtain ⟨n, ok, e, hn⟩ := ih (i + 1) (10 * x + (rd (bytesOf t) (i : Int) - 48) % 256) (by omega) (by omega) (by rw [Int.pow_succ]; omega)
    refine ⟨n, ok, Ev.step (fun k => shell_counted.l0.eq_2 _ _ _ _ _ _ _) (Ev.ifp (by omega) (Ev.ifp (by omega) (Ev.ifp (by rw [hl]; omega) (Ev.ifn h48 (Ev.ifn h57 ?_))))), hn⟩
    rw [w1 (by omega), wrap_small (i := 10 * x) (by omega) (by omega), wrap_small (by omega) (by omega)]
    exact e
theorem counted_tot (s : ByteArray) (_hs : s.size ≤ 100000) : ∃ (n : Int) (ok : Bool), Ev (fun k => shell_counted.f k s) (n, ok) ∧ (ok = true → -1000000000000000000 < n ∧ n < 1000000000000000000) := by
  generalize ht : (⟨(Lib.trimPrefix s.data.toList [45]).toArray⟩ : ByteArray) = t
  have e : strings_TrimPrefix.f s ⟨#[45]⟩ = some t := congrArg some ht
  have hz : t.size ≤ s.size := by
    rw [← ht]
    show (Lib.trimPrefix s.data.toList [45]).length ≤ _
    rw [← ByteArray.toList_eq, ← size_list]
    unfold Lib.trimPrefix
    split
    · rw [List.length_drop]; omega
    · exact Nat.le_refl _
  by_cases h0 : t.toList = []
  · exact ⟨0, false, Ev.cb e (Ev.ifp h0 (Ev.step (fun k => shell_counted.j0.eq_2 _ _ _ _) (Ev.ifp rfl (Ev.now _)))), fun h => by cases h⟩
  by_cases h18 : (t.size : Int) > 18
  · exact ⟨0, false, Ev.cb e (Ev.ifn h0 (Ev.step (fun k => shell_counted.j0.eq_2 _ _ _ _) (Ev.ifp (decide_eq_true h18) (Ev.now _)))), fun h => by cases h⟩
  obtain ⟨n, ok, e2, hn⟩ := counted_l s t (by omega) t.size 0 0 (by omega) (by omega) (by decide)
  refine ⟨n, ok, Ev.cb e (Ev.ifn h0 (Ev.step (fun k => shell_counted.j0.eq_2 _ _ _ _) (Ev.ifn (by simpa using h18) (Ev.ifp (by omega) (Ev.cb rfl ?_))))), hn⟩
  simp only [bytesOf_length]
  exact e2
structure GoodW (M : Nat) (w : S88) : Prop where
  kd : w.f0 = 0 ∨ w.f0 = 1 ∨ w.f0 = 2
  num : w.f0 = 1 → -1000000000000000000 < w.f2 ∧ w.f2 < 1000000000000000000
  size : w.f1.size ≤ M
theorem ext_size (s : ByteArray) (a b : Nat) (h : b ≤ s.size) : (s.extract a b).size = b - a := by
  rw [← size_list, list_ext, List.length_drop, List.length_take, size_list]
  omega
theorem next_j (s : ByteArray) (hs : s.size ≤ 100000) (a m : Nat) (ha : a ≤ m) (hm : m ≤ s.size) :
    ∃ (kd : Int) (str : ByteArray) (num : Int), Ev (fun k => shell_line_next.j1 k (a : Int) false s (m : Int)) (kd, str, num, true, s, (m : Int)) ∧ GoodW s.size ⟨kd, str, num⟩ := by
  have hz : (s.extract a m).size ≤ s.size := by rw [ext_size s a m hm]; omega
  obtain ⟨n, ok, e, hn⟩ := counted_tot (s.extract a m) (by omega)
  by_cases hok : ok = true
  · exact ⟨1, s.extract a m, n, Ev.step (fun k => shell_line_next.j1.eq_2 _ _ _ _ _) (Ev.ifn Bool.false_ne_true (Ev.ifp (Int.natCast_nonneg a) (Ev.ifp (Int.ofNat_le.2 ha) (Ev.ifp (Int.ofNat_le.2 hm) (Ev.bind e (Ev.ifp hok (Ev.now _))))))), ⟨.inr (.inl rfl), fun _ => hn hok, hz⟩⟩
  · exact ⟨0, s.extract a m, 0, Ev.step (fun k => shell_line_next.j1.eq_2 _ _ _ _ _) (Ev.ifn Bool.false_ne_true (Ev.ifp (Int.natCast_nonneg a) (Ev.ifp (Int.ofNat_le.2 ha) (Ev.ifp (Int.ofNat_le.2 hm) (Ev.bind e (Ev.ifn hok (Ev.now _))))))), ⟨.inl rfl, fun h => absurd h (by show ¬ (0 : Int) = 1; decide), hz⟩⟩
theorem next_l (s : ByteArray) (hs : s.size ≤ 100000) (a : Nat) : ∀ (d m : Nat), s.size - m ≤ d → a ≤ m → m ≤ s.size →
    ∃ (kd : Int) (str : ByteArray) (num : Int) (ok : Bool) (n' : Nat), Ev (fun k => shell_line_next.l0 k (a : Int) s (m : Int)) (kd, str, num, ok, s, (n' : Int)) ∧ m ≤ n' ∧ n' ≤ s.size ∧ (ok = true → GoodW s.size ⟨kd, str, num⟩) ∧
      (ok = true → m < s.size → (∀ c : UInt8, bt s (m : Int) = (c.toNat : Int) → gapB c = false) → m < n') := by
  intro d
  induction d with
  | zero =>
    intro m hd ha hm
    obtain ⟨kd, str, num, e, hg⟩ := next_j s hs a m ha hm
    exact ⟨kd, str, num, true, m, Ev.step (fun k => shell_line_next.l0.eq_2 _ _ _ _) (Ev.cb (end_y (by omega)) (Ev.ifp rfl e)), Nat.le_refl _, hm, fun _ => hg, fun _ h => by omega⟩
  | succ d ih =>
    intro m hd ha hm
    by_cases h : s.size ≤ m
    · obtain ⟨kd, str, num, e, hg⟩ := next_j s hs a m ha hm
      exact ⟨kd, str, num, true, m, Ev.step (fun k => shell_line_next.l0.eq_2 _ _ _ _) (Ev.cb (end_y h) (Ev.ifp rfl e)), Nat.le_refl _, hm, fun _ => hg, fun _ h => by omega⟩
    have hlt : m < s.size := by omega
    obtain ⟨c, hc⟩ := bt_u8 hlt
    by_cases hg : gapB c = true
    · obtain ⟨kd, str, num, e, hw⟩ := next_j s hs a m ha hm
      exact ⟨kd, str, num, true, m, Ev.step (fun k => shell_line_next.l0.eq_2 _ _ _ _) (Ev.cb (end_n hlt) (Ev.ifn Bool.false_ne_true (Ev.ifp (Int.natCast_nonneg m) (Ev.ifp (Int.ofNat_lt.2 hlt) (Ev.cb (by rw [hc]; exact blank_f c) (by rw [hg]; exact e)))))), Nat.le_refl _, hm, fun _ => hw, fun _ _ h => by rw [h c hc] at hg; cases hg⟩
    have hg' : (!gapB c) = true := by simpa using hg
    have bad : ∀ r, Ev (fun k => shell_line_next.j1 k (a : Int) true s (m : Int)) r → Ev (fun k => shell_line_next.l0 k (a : Int) s (m : Int)) r := fun r e =>
      Ev.step (fun k => shell_line_next.l0.eq_2 _ _ _ _) (Ev.cb (end_n hlt) (Ev.ifn Bool.false_ne_true (Ev.ifp (Int.natCast_nonneg m) (Ev.ifp (Int.ofNat_lt.2 hlt) (Ev.cb (by rw [hc]; exact blank_f c) (by rw [hg']; exact e))))))
    have no : Ev (fun k => shell_line_next.j2 k (a : Int) true s (m : Int)) (0, ⟨#[]⟩, 0, false, s, (m : Int)) := Ev.step (fun k => shell_line_next.j2.eq_2 _ _ _ _ _) (Ev.ifp rfl (Ev.now _))
    by_cases h1 : bt s (m : Int) < 33
    · exact ⟨0, _, 0, false, m, bad _ (Ev.step (fun k => shell_line_next.j1.eq_2 _ _ _ _ _) (Ev.ifp rfl (Ev.ifp (Int.natCast_nonneg m) (Ev.ifp (Int.ofNat_lt.2 hlt) (Ev.ifp h1 no))))), Nat.le_refl _, hm, (fun h => nomatch h), (fun h => nomatch h)⟩
    by_cases h2 : bt s (m : Int) > 126
    · exact ⟨0, _, 0, false, m, bad _ (Ev.step (fun k => shell_line_next.j1.eq_2 _ _ _ _ _) (Ev.ifp rfl (Ev.ifp (Int.natCast_nonneg m) (Ev.ifp (Int.ofNat_lt.2 hlt) (Ev.ifn h1 (Ev.ifp h2 no)))))), Nat.le_refl _, hm, (fun h => nomatch h), (fun h => nomatch h)⟩
    by_cases h3 : bt s (m : Int) = 34
    · exact ⟨0, _, 0, false, m, bad _ (Ev.step (fun k => shell_line_next.j1.eq_2 _ _ _ _ _) (Ev.ifp rfl (Ev.ifp (Int.natCast_nonneg m) (Ev.ifp (Int.ofNat_lt.2 hlt) (Ev.ifn h1 (Ev.ifn h2 (Ev.ifp h3 no))))))), Nat.le_refl _, hm, (fun h => nomatch h), (fun h => nomatch h)⟩
    by_cases h4 : (bt s (m : Int) == 35) = true
    · exact ⟨0, _, 0, false, m, bad _ (Ev.step (fun k => shell_line_next.j1.eq_2 _ _ _ _ _) (Ev.ifp rfl (Ev.ifp (Int.natCast_nonneg m) (Ev.ifp (Int.ofNat_lt.2 hlt) (Ev.ifn h1 (Ev.ifn h2 (Ev.ifn h3 (by rw [h4]; exact no)))))))), Nat.le_refl _, hm, (fun h => nomatch h), (fun h => nomatch h)⟩
    obtain ⟨kd, str, num, ok, n', e, g1, g2, g3, _⟩ := ih (m + 1) (by omega) (by omega) (by omega)
    refine ⟨kd, str, num, ok, n', bad _ (Ev.step (fun k => shell_line_next.j1.eq_2 _ _ _ _ _) (Ev.ifp rfl (Ev.ifp (Int.natCast_nonneg m) (Ev.ifp (Int.ofNat_lt.2 hlt) (Ev.ifn h1 (Ev.ifn h2 (Ev.ifn h3 (Ev.step (fun k => shell_line_next.j2.eq_2 _ _ _ _ _) (Ev.ifn h4 ?_))))))))), by omega, g2, g3, fun _ _ _ => by omega⟩
    simp only [w1 (n := m) (by omega)]
    exact e
theorem next_tot (s : ByteArray) (hs : s.size ≤ 100000) (n : Nat) (hn : n < s.size) (hb : ∀ c : UInt8, bt s (n : Int) = (c.toNat : Int) → gapB c = false) :
    ∃ (kd : Int) (str : ByteArray) (num : Int) (ok : Bool) (n' : Nat), Ev (fun k => shell_line_next.f k s (n : Int)) (kd, str, num, ok, s, (n' : Int)) ∧ n' ≤ s.size ∧ (ok = true → n < n' ∧ GoodW s.size ⟨kd, str, num⟩) := by
  by_cases h34 : bt s (n : Int) = 34
  · obtain ⟨kd, str, num, ok, n', e, g1, g2, g3⟩ := text_tot s hs (s.size - (n + 1)) (n + 1) [] (Nat.le_refl _) (by omega) (by simp)
    refine ⟨kd, str, num, ok, n', Ev.ifp (Int.natCast_nonneg n) (Ev.ifp (Int.ofNat_lt.2 hn) (Ev.ifp h34 (Ev.bind (a := (kd, str, num, ok, s, (n' : Int))) ?_ (Ev.now _)))), g2, fun h => ⟨by omega, ⟨.inr (.inr (g3 h).1), fun h1 => ?_, (g3 h).2⟩⟩⟩
    · rw [w1 (n := n) (by omega)]
      exact e
    · have := (g3 h).1
      simp only at h1
      omega
  · obtain ⟨kd, str, num, ok, n', e, g1, g2, g3, g4⟩ := next_l s hs n (s.size - n) n (Nat.le_refl _) (Nat.le_refl _) (by omega)
    exact ⟨kd, str, num, ok, n', Ev.ifp (Int.natCast_nonneg n) (Ev.ifp (Int.ofNat_lt.2 hn) (Ev.ifn h34 e)), g2, fun h => ⟨g4 h hn hb, g3 h⟩⟩
theorem words_l (s : ByteArray) (hs : s.size ≤ 8000) : ∀ (d n : Nat) (acc : List S88), s.size - n < d → n ≤ s.size → acc.length ≤ n → (∀ w ∈ acc, GoodW 8000 w) →
    ∃ (ws : List S88) (e : Int), Ev (fun k => shell_words.l0 k acc s (n : Int)) (ws, e) ∧ ∀ w ∈ ws, GoodW 8000 w := by
  intro d
  induction d with
  | zero => intro n acc hd; omega
  | succ d ih =>
    intro n acc hd hn ha hg
    have hsk := skip_ev s (by omega) (s.toList.drop n) n rfl
    have hle : n + skipN (s.toList.drop n) ≤ s.size := by
      have := skipN_le (s.toList.drop n)
      rw [List.length_drop, size_list] at this
      omega
    have hat : ∀ c : UInt8, n + skipN (s.toList.drop n) < s.size → bt s ((n + skipN (s.toList.drop n) : Nat) : Int) = (c.toNat : Int) → gapB c = false := by
      intro c hlt hc
      obtain ⟨c', r', hd'⟩ := at_lt hlt
      have := skipN_at (s.toList.drop n) c' r' (by rw [List.drop_drop]; exact hd')
      rw [(at_cons hd').2.1] at hc
      rw [← UInt8.toNat.inj (Int.ofNat.inj hc)]
      exact this
    generalize hm : n + skipN (s.toList.drop n) = m at hsk hle hat
    by_cases hz : s.size ≤ m
    · exact ⟨acc, 0, Ev.step (fun k => shell_words.l0.eq_2 _ _ _ _) (Ev.bind hsk (Ev.cb (end_y hz) (Ev.ifp rfl (Ev.now _)))), hg⟩
    have hlt : m < s.size := by omega
    have hnm : n ≤ m := by rw [← hm]; omega
    obtain ⟨kd, str, num, ok, n', e, g1, g2⟩ := next_tot s (by omega) m hlt (fun c => hat c hlt)
    by_cases hok : ok = true
    · obtain ⟨g3, g4⟩ := g2 hok
      obtain ⟨ws, er, e2, hw⟩ := ih n' (acc ++ [⟨kd, str, num⟩]) (by omega) g1 (by rw [List.length_append]; simp only [List.length_singleton]; omega) (fun w hw => by
        rcases List.mem_append.1 hw with h | h
        · exact hg w h
        · rw [List.mem_singleton.1 h]
          exact ⟨g4.kd, g4.num, Nat.le_trans g4.size hs⟩)
      exact ⟨ws, er, Ev.step (fun k => shell_words.l0.eq_2 _ _ _ _) (Ev.bind hsk (Ev.cb (end_n hlt) (Ev.ifn Bool.false_ne_true (Ev.bind e (Ev.ifp hok (Ev.ifp (by omega) e2)))))), hw⟩
    · exact ⟨[], 5, Ev.step (fun k => shell_words.l0.eq_2 _ _ _ _) (Ev.bind hsk (Ev.cb (end_n hlt) (Ev.ifn Bool.false_ne_true (Ev.bind e (Ev.ifn hok (Ev.now _)))))), fun w hw => nomatch hw⟩
theorem words_tot (s : ByteArray) : ∃ (ws : List S88) (e : Int), Ev (fun k => shell_words.f k s) (ws, e) ∧ ∀ w ∈ ws, GoodW 8000 w := by
  by_cases h : (s.size : Int) > 8000
  · exact ⟨[], 4, Ev.ifp h (Ev.now _), fun w hw => nomatch hw⟩
  · obtain ⟨ws, e, h1, h2⟩ := words_l s (by omega) (s.size + 1) 0 [] (by omega) (by omega) (by simp) (fun w hw => nomatch hw)
    exact ⟨ws, e, Ev.ifn h h1, h2⟩
end Go.Proofs.YtenigkhfldafaaaDoor.A
