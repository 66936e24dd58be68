/- A quoted text, and that it is read back. -/
import Derived.Test.YtenigkhfldafaaaDoorR2
import Derived.Test.YtenigkhfldafaaaDoorA8
namespace Go.Proofs.YtenigkhfldafaaaDoor.A
open Go.RowKit Go.Proofs.YtenigkhfldafaaaDoorW.PrintWords
set_option maxRecDepth 100000
def hxN (n : Nat) : UInt8 := UInt8.ofNat (if n < 10 then 48 + n else 87 + n)
def q1 (c : UInt8) : List UInt8 := if c = 34 ∨ c = 92 then [92, c] else if c = 10 then [92, 110] else if c.toNat < 32 ∨ 126 < c.toNat then [92, 120, hxN (c.toNat / 16), hxN (c.toNat % 16)] else [c]
def qb : List UInt8 → List UInt8
 | [] => []
 | c :: r => q1 c ++ qb r
def qt (l : List UInt8) : List UInt8 := 34 :: (qb l ++ [34])
def nb (l : List UInt8) : List Int := l.map fun c => (c.toNat : Int)
theorem nums_nb (l : List UInt8) : strOfNums (nb l) = B l := by
 rw [nums_data, nb, List.map_map]
 congr 1
 conv => rhs; rw [← List.map_id l]
 apply List.map_congr_left
 intro c _
 simp
theorem q1_len (c : UInt8) : 1 ≤ (q1 c).length ∧ (q1 c).length ≤ 4 := by
 unfold q1
 repeat' split
 all_goals simp
theorem qb_len : ∀ l : List UInt8, l.length ≤ (qb l).length ∧ (qb l).length ≤ 4 * l.length
 | [] => ⟨Nat.le_refl _, Nat.le_refl _⟩
 | c :: r => by
  have h1 := qb_len r
  have h2 := q1_len c
  simp only [qb, List.length_append, List.length_cons]
  omega
theorem dig_all : ∀ n : Fin 256, bt (⟨#[48, 49, 50, 51, 52, 53, 54, 55, 56, 57, 97, 98, 99, 100, 101, 102]⟩ : ByteArray) ((n.val : Int) / 16) = ((hxN (n.val / 16)).toNat : Int) ∧ Go.bits .and .u8 (n.val : Int) 15 = ((n.val % 16 : Nat) : Int) ∧ bt (⟨#[48, 49, 50, 51, 52, 53, 54, 55, 56, 57, 97, 98, 99, 100, 101, 102]⟩ : ByteArray) ((n.val % 16 : Nat) : Int) = ((hxN (n.val % 16)).toNat : Int) := by decide +kernel
theorem dig_u8 (c : UInt8) : bt (⟨#[48, 49, 50, 51, 52, 53, 54, 55, 56, 57, 97, 98, 99, 100, 101, 102]⟩ : ByteArray) ((c.toNat : Int) / 16) = ((hxN (c.toNat / 16)).toNat : Int) ∧ Go.bits .and .u8 (c.toNat : Int) 15 = ((c.toNat % 16 : Nat) : Int) ∧ bt (⟨#[48, 49, 50, 51, 52, 53, 54, 55, 56, 57, 97, 98, 99, 100, 101, 102]⟩ : ByteArray) ((c.toNat % 16 : Nat) : Int) = ((hxN (c.toNat % 16)).toNat : Int) := dig_all ⟨c.toNat, c.toNat_lt⟩
theorem quote_l (s : ByteArray) (hs : s.size ≤ 10000000) : ∀ (d : List UInt8) (i : Nat) (acc : List Int), s.toList.drop i = d → acc.length ≤ 4 * i + 1 → i ≤ s.size →
  Ev (fun k => shell_quote.l0 k acc (bytesOf s) (s.size : Int) (i : Int)) (strOfNums (acc ++ (nb (qb d) ++ [34])))
 | [], i, acc, hd, ha, hi => by
  have hn := at_nil hd
  exact Ev.step (fun k => shell_quote.l0.eq_2 _ _ _ _ _) (Ev.ifn (by omega) (Ev.ifp (by omega) (Ev.now _)))
 | c :: r, i, acc, hd, ha, hi => by
  obtain ⟨hn, hb, hr, hz⟩ := at_cons hd
  have hl : (bytesOf s).length = s.size := bytesOf_length s
  have hrd : rd (bytesOf s) (i : Int) = (c.toNat : Int) := by rw [bytes_rd s i hn, hb]
  have e1 := w1 (n := i) (by omega)
  have hlen := q1_len c
  have next : ∀ (p : List Int), p = nb (q1 c) → ∀ (R : Nat → Option ByteArray), (∀ k, R k = shell_quote.l0 k (acc ++ p) (bytesOf s) (s.size : Int) (wrap64 ((i : Int) + 1))) → Ev R (strOfNums (acc ++ (nb (qb (c :: r)) ++ [34]))) := by
   intro p hp R hR
   refine Ev.congr hR ?_
   simp only [e1]
   have := quote_l s hs r (i + 1) (acc ++ p) hr (by rw [List.length_append, hp, nb, List.length_map]; omega) (by omega)
   rw [List.append_assoc, hp, ← List.append_assoc (nb (q1 c))] at this
   rw [show nb (qb (c :: r)) = nb (q1 c) ++ nb (qb r) by simp [qb, nb], hp]
   exact this
  obtain ⟨g1, g2, g3⟩ := dig_u8 c
  have hc := c.toNat_lt
  have into : ∀ b : Bool, (b = true ↔ (c = 34 ∨ c = 92)) → Ev (fun k => shell_quote.j1 k acc (c.toNat : Int) (bytesOf s) (s.size : Int) (i : Int) b) (strOfNums (acc ++ (nb (qb (c :: r)) ++ [34]))) := by
   intro b hbi
   by_cases h1 : c = 34 ∨ c = 92
   ·refine Ev.step (fun k => shell_quote.j1.eq_2 _ _ _ _ _ _ _) (Ev.ifp (hbi.2 h1) (Ev.cb rfl (Ev.ifp (by simp only [List.length_cons, List.length_nil]; omega) ?_)))
    exact next [92, (c.toNat : Int)] (by rw [q1, if_pos h1]; rfl) _ (fun k => rfl)
   have hbn : ¬ b = true := fun h => h1 (hbi.1 h)
   by_cases h2 : c = 10
   ·refine Ev.step (fun k => shell_quote.j1.eq_2 _ _ _ _ _ _ _) (Ev.ifn hbn (Ev.ifp ((u8_eq (d := 10) rfl).2 h2) (Ev.cb rfl (Ev.ifp (by simp only [List.length_cons, List.length_nil]; omega) ?_))))
    exact next [92, 110] (by rw [q1, if_neg h1, if_pos h2]; rfl) _ (fun k => rfl)
   have h2' : ¬ ((c.toNat : Int) = 10) := fun h => h2 ((u8_eq (d := 10) rfl).1 h)
   by_cases h3 : (c.toNat : Int) < 32
   ·refine Ev.step (fun k => shell_quote.j1.eq_2 _ _ _ _ _ _ _) (Ev.ifn hbn (Ev.ifn h2' (Ev.ifp h3 (Ev.ifp (by omega) (Ev.ifp (by omega) (Ev.ifp (by rw [g2]; omega) (Ev.ifp (by rw [g2]; omega) (Ev.cb rfl (Ev.ifp (by simp only [List.length_cons, List.length_nil]; omega) ?_)))))))))
    exact next _ (by rw [q1, if_neg h1, if_neg h2, if_pos (by omega), g1, g2, g3]; rfl) _ (fun k => rfl)
   by_cases h4 : (c.toNat : Int) > 126
   ·refine Ev.step (fun k => shell_quote.j1.eq_2 _ _ _ _ _ _ _) (Ev.ifn hbn (Ev.ifn h2' (Ev.ifn h3 (Ev.ifp h4 (Ev.ifp (by omega) (Ev.ifp (by omega) (Ev.ifp (by rw [g2]; omega) (Ev.ifp (by rw [g2]; omega) (Ev.cb rfl (Ev.ifp (by simp only [List.length_cons, List.length_nil]; omega) ?_))))))))))
    exact next _ (by rw [q1, if_neg h1, if_neg h2, if_pos (by omega), g1, g2, g3]; rfl) _ (fun k => rfl)
   ·refine Ev.step (fun k => shell_quote.j1.eq_2 _ _ _ _ _ _ _) (Ev.ifn hbn (Ev.ifn h2' (Ev.ifn h3 (Ev.ifn h4 (Ev.ifp (by omega) ?_)))))
    exact next [(c.toNat : Int)] (by rw [q1, if_neg h1, if_neg h2, if_neg (by omega)]; rfl) _ (fun k => rfl)
  by_cases h34 : c = 34
  ·refine Ev.step (fun k => shell_quote.l0.eq_2 _ _ _ _ _) (Ev.ifp (by omega) (Ev.ifp (by omega) (Ev.ifp (by rw [hl]; omega) (Ev.ifp (by rw [hrd]; exact (u8_eq (d := 34) rfl).2 h34) ?_))))
   simp only [hrd]
   exact into true ⟨fun _ => .inl h34, fun _ => rfl⟩
  ·refine Ev.step (fun k => shell_quote.l0.eq_2 _ _ _ _ _) (Ev.ifp (by omega) (Ev.ifp (by omega) (Ev.ifp (by rw [hl]; omega) (Ev.ifn (by rw [hrd]; exact fun h => h34 ((u8_eq (d := 34) rfl).1 h)) ?_))))
   simp only [hrd]
   refine into _ ⟨fun h => .inr ((u8_eq (d := 92) rfl).1 (beq_iff_eq.1 h)), fun h => ?_⟩
   rcases h with h | h
   ·exact absurd h h34
   ·exact beq_iff_eq.2 ((u8_eq (d := 92) rfl).2 h)
theorem quote_ev (s : ByteArray) (hs : s.size ≤ 10000000) : Ev (fun k => shell_quote.f k s) (B (qt s.toList)) := by
 have h := quote_l s hs s.toList 0 [34] rfl (by simp) (Nat.zero_le _)
 refine Ev.ifp (by omega) (Ev.cb rfl ?_)
 simp only [bytesOf_length]
 have e : strOfNums ([34] ++ (nb (qb s.toList) ++ [34])) = B (qt s.toList) := by
  rw [← nums_nb]
  congr 1
  simp [qt, nb]
 rw [← e]
 exact h
theorem hex_at : ∀ n : Fin 16, shell_hex.f 1 ((hxN n.val).toNat : Int) = some (n.val : Int) := by decide +kernel
theorem hex_back {n : Nat} (h : n < 16) : Ev (fun k => shell_hex.f k ((hxN n).toNat : Int)) (n : Int) := Ev.of (shell_hex.mono _) (hex_at ⟨n, h⟩)
def Stop (r : List UInt8) : Prop := r = [] ∨ ∃ c t, r = c :: t ∧ gapB c = true
theorem join_all : ∀ n : Fin 256, (wrap64 (wrap64 (16 * mx ((n.val / 16 : Nat) : Int) 0) + mx ((n.val % 16 : Nat) : Int) 0)) % 256 = (n.val : Int) := by decide +kernel
theorem esc_hex (s : ByteArray) (hs : s.size ≤ 100000) (n : Nat) (a b : UInt8) (v w : Nat) (x1 : Ev (fun k => shell_hex.f k (a.toNat : Int)) (v : Int)) (x2 : Ev (fun k => shell_hex.f k (b.toNat : Int)) (w : Int)) (r : List UInt8) (hd : s.toList.drop n = 120 :: a :: b :: r) :
  s.toList.drop (n + 3) = r ∧ Ev (fun k => shell_line_escape.f k s (n : Int)) ((wrap64 (wrap64 (16 * mx (v : Int) 0) + mx (w : Int) 0)) % 256, true, s, ((n + 3 : Nat) : Int)) := by
 obtain ⟨hn2, hb2, hr2, hz2⟩ := at_cons hd
 obtain ⟨hn3, hb3, hr3, hz3⟩ := at_cons hr2
 obtain ⟨hn4, hb4, hr4, hz4⟩ := at_cons hr3
 have e2 := w1 (n := n) (Nat.le_trans (Nat.le_of_lt hn2) (Nat.le_trans hs (by decide)))
 have e3 := w1 (n := n + 1) (Nat.le_trans (Nat.le_of_lt hn3) (Nat.le_trans hs (by decide)))
 have e4 := w2 (n := n + 1) (Nat.le_trans (Nat.le_of_lt hn3) (Nat.le_trans hs (by decide)))
 refine ⟨hr4, Ev.cb (end_n hn2) (Ev.ifn Bool.false_ne_true (Ev.ifp (Int.natCast_nonneg _) (Ev.ifp (Int.ofNat_lt.2 hn2) (Ev.ifn (by rw [hb2]; decide) ?_))))⟩
 simp only [hb2, e2]
 have hw : ¬ wrap64 ((s.size : Int) - ((n + 1 : Nat) : Int)) < 2 := by
  clear hb2 hb3 hb4 e2 e3 e4
  rw [wrap_small (by omega) (by omega)]
  omega
 have h0 : (0 : Int) ≤ (v : Int) := Int.natCast_nonneg _
 have h0' : (0 : Int) ≤ (w : Int) := Int.natCast_nonneg _
 refine Ev.step (fun k => shell_line_escape.j0.eq_2 _ _ _ _ _ _) (Ev.ifn (by decide) (Ev.ifn (by decide) (Ev.ifp rfl (Ev.ifn hw (Ev.ifp (Int.natCast_nonneg _) (Ev.ifp (Int.ofNat_lt.2 hn3) (Ev.bind (by rw [hb3]; exact x1) (Ev.ifp (by rw [e3]; exact Int.natCast_nonneg _) (Ev.ifp (by rw [e3]; exact Int.ofNat_lt.2 hn4) (Ev.bind (by rw [e3, hb4]; exact x2) (Ev.ifp h0 ?_)))))))))))
 rw [e4, decide_eq_true h0']
 exact Ev.now _
theorem text_q (s : ByteArray) (hs : s.size ≤ 100000) (rest : List UInt8) (hst : Stop rest) : ∀ (x : List UInt8) (n : Nat) (acc : List Int), s.toList.drop n = qb x ++ 34 :: rest → acc.length ≤ n →
  Ev (fun k => shell_line_text.l0 k acc s (n : Int)) (2, strOfNums (acc ++ nb x), 0, true, s, ((n + (qb x).length + 1 : Nat) : Int))
 | [], n, acc, hd, ha => by
  obtain ⟨hn, hb, hr, hz⟩ := at_cons (c := 34) (r := rest) hd
  have e1 := w1 (n := n) (by omega)
  rw [show acc ++ nb [] = acc by simp [nb]]
  refine Ev.step (fun k => shell_line_text.l0.eq_2 _ _ _ _) (Ev.cb (end_n hn) (Ev.ifn Bool.false_ne_true (Ev.ifp (Int.natCast_nonneg n) (Ev.ifp (Int.ofNat_lt.2 hn) (Ev.ifp hb ?_)))))
  simp only [e1]
  rcases hst with rfl | ⟨c, t, rfl, hg⟩
  ·exact Ev.cb (end_y (at_nil hr)) (Ev.ifp rfl (Ev.now _))
  ·obtain ⟨hn2, hb2, _, _⟩ := at_cons hr
   exact Ev.cb (end_n hn2) (Ev.ifn Bool.false_ne_true (Ev.ifp (Int.natCast_nonneg _) (Ev.ifp (Int.ofNat_lt.2 hn2) (Ev.cb (by rw [hb2]; exact blank_f c) (Ev.ifp hg (Ev.now _))))))
 | c :: x, n, acc, hd, ha => by
  have go : ∀ m, m = n + (q1 c).length → s.toList.drop m = qb x ++ 34 :: rest → Ev (fun k => shell_line_text.l0 k (acc ++ [(c.toNat : Int)]) s (m : Int)) (2, strOfNums (acc ++ nb (c :: x)), 0, true, s, ((n + (qb (c :: x)).length + 1 : Nat) : Int)) := by
   intro m hm hr
   have hq := q1_len c
   have := text_q s hs rest hst x m (acc ++ [(c.toNat : Int)]) hr (by rw [List.length_append, List.length_singleton]; omega)
   rw [List.append_assoc] at this
   rw [show n + (qb (c :: x)).length + 1 = m + (qb x).length + 1 by simp only [qb, List.length_append]; omega]
   exact this
  have hacc : acc.length < 140737488355328 := by
   have : n < s.size := by
    rcases Nat.lt_or_ge n s.size with h | h
    ·exact h
    ·exfalso
     have : (s.toList.drop n).length = 0 := by rw [List.length_drop, size_list]; omega
     rw [hd] at this
     simp at this
   omega
  rw [show qb (c :: x) = q1 c ++ qb x from rfl, List.append_assoc] at hd
  unfold q1 at hd go
  by_cases h1 : c = 34 ∨ c = 92
  ·rw [if_pos h1] at hd go
   obtain ⟨hn, hb, hr, hz⟩ := at_cons (c := 92) (r := c :: (qb x ++ 34 :: rest)) hd
   obtain ⟨hn2, hb2, hr2, hz2⟩ := at_cons hr
   have e1 := w1 (n := n) (by omega)
   have e2 := w1 (n := n + 1) (by omega)
   refine Ev.step (fun k => shell_line_text.l0.eq_2 _ _ _ _) (Ev.cb (end_n hn) (Ev.ifn Bool.false_ne_true (Ev.ifp (Int.natCast_nonneg n) (Ev.ifp (Int.ofNat_lt.2 hn) (Ev.ifn (by rw [hb]; decide) (Ev.ifp (by rw [hb]; rfl) (Ev.bind (a := ((c.toNat : Int), true, s, ((n + 1 + 1 : Nat) : Int))) ?_ (Ev.ifp rfl (Ev.ifp hacc (go (n + 1 + 1) rfl hr2))))))))))
   simp only [e1]
   rcases h1 with rfl | rfl
   ·refine Ev.cb (end_n hn2) (Ev.ifn Bool.false_ne_true (Ev.ifp (Int.natCast_nonneg _) (Ev.ifp (Int.ofNat_lt.2 hn2) (Ev.ifn (by rw [hb2]; decide) ?_))))
    simp only [hb2, e2]
    exact Ev.step (fun k => shell_line_escape.j0.eq_2 _ _ _ _ _ _) (Ev.ifp rfl (Ev.now _))
   ·refine Ev.cb (end_n hn2) (Ev.ifn Bool.false_ne_true (Ev.ifp (Int.natCast_nonneg _) (Ev.ifp (Int.ofNat_lt.2 hn2) (Ev.ifp (by rw [hb2]; rfl) ?_))))
    simp only [hb2, e2]
    exact Ev.step (fun k => shell_line_escape.j0.eq_2 _ _ _ _ _ _) (Ev.ifp rfl (Ev.now _))
  rw [if_neg h1] at hd go
  by_cases h2 : c = 10
  ·rw [if_pos h2] at hd go
   obtain ⟨hn, hb, hr, hz⟩ := at_cons (c := 92) (r := 110 :: (qb x ++ 34 :: rest)) hd
   obtain ⟨hn2, hb2, hr2, hz2⟩ := at_cons hr
   have e1 := w1 (n := n) (by omega)
   have e2 := w1 (n := n + 1) (by omega)
   refine Ev.step (fun k => shell_line_text.l0.eq_2 _ _ _ _) (Ev.cb (end_n hn) (Ev.ifn Bool.false_ne_true (Ev.ifp (Int.natCast_nonneg n) (Ev.ifp (Int.ofNat_lt.2 hn) (Ev.ifn (by rw [hb]; decide) (Ev.ifp (by rw [hb]; rfl) (Ev.bind (a := ((c.toNat : Int), true, s, ((n + 1 + 1 : Nat) : Int))) ?_ (Ev.ifp rfl (Ev.ifp hacc (go (n + 1 + 1) rfl hr2))))))))))
   simp only [e1]
   refine Ev.cb (end_n hn2) (Ev.ifn Bool.false_ne_true (Ev.ifp (Int.natCast_nonneg _) (Ev.ifp (Int.ofNat_lt.2 hn2) (Ev.ifn (by rw [hb2]; decide) ?_))))
   simp only [hb2, e2]
   subst h2
   exact Ev.step (fun k => shell_line_escape.j0.eq_2 _ _ _ _ _ _) (Ev.ifn (by decide) (Ev.ifp rfl (Ev.now _)))
  rw [if_neg h2] at hd go
  by_cases h3 : c.toNat < 32 ∨ 126 < c.toNat
  ·rw [if_pos h3] at hd go
   have hc := c.toNat_lt
   have x1 := hex_back (n := c.toNat / 16) (by clear h3 hacc ha; omega)
   have x2 := hex_back (n := c.toNat % 16) (by clear h3 hacc ha; omega)
   have hj := join_all ⟨c.toNat, hc⟩
   obtain ⟨hn, hb, hr, hz⟩ := at_cons (c := 92) (r := 120 :: hxN (c.toNat / 16) :: hxN (c.toNat % 16) :: (qb x ++ 34 :: rest)) hd
   obtain ⟨hr4, he⟩ := esc_hex s hs (n + 1) _ _ _ _ x1 x2 _ hr
   rw [hj] at he
   refine Ev.step (fun k => shell_line_text.l0.eq_2 _ _ _ _) (Ev.cb (end_n hn) (Ev.ifn Bool.false_ne_true (Ev.ifp (Int.natCast_nonneg n) (Ev.ifp (Int.ofNat_lt.2 hn) (Ev.ifn (by rw [hb]; decide) (Ev.ifp (by rw [hb]; rfl) (Ev.bind (a := ((c.toNat : Int), true, s, ((n + 1 + 3 : Nat) : Int))) ?_ (Ev.ifp rfl (Ev.ifp hacc (go (n + 1 + 3) rfl hr4))))))))))
   rw [w1 (Nat.le_trans (Nat.le_of_lt hn) (Nat.le_trans hs (by decide)))]
   exact he
  ·rw [if_neg h3] at hd go
   obtain ⟨hn, hb, hr, hz⟩ := at_cons (c := c) (r := qb x ++ 34 :: rest) hd
   have e1 := w1 (n := n) (by omega)
   refine Ev.step (fun k => shell_line_text.l0.eq_2 _ _ _ _) (Ev.cb (end_n hn) (Ev.ifn Bool.false_ne_true (Ev.ifp (Int.natCast_nonneg n) (Ev.ifp (Int.ofNat_lt.2 hn) (Ev.ifn (by rw [hb]; exact fun h => h1 (.inl ((u8_eq (d := 34) rfl).1 h))) (Ev.ifn (by rw [hb]; exact fun h => h1 (.inr ((u8_eq (d := 92) rfl).1 h))) (Ev.ifn (by rw [hb]; omega) (Ev.ifn (by rw [hb]; omega) (Ev.ifp hacc ?_)))))))))
   simp only [e1, hb]
   exact go (n + 1) rfl hr
end Go.Proofs.YtenigkhfldafaaaDoor.A
