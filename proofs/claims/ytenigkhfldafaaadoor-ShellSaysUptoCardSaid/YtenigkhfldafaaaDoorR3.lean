/- A quoted text, and that it is read back. -/
import Derived.Test.YtenigkhfldafaaaDoorR2
import Derived.Test.YtenigkhfldafaaaDoorA8
namespace Go.Proofs.YtenigkhfldafaaaDoor.A
open Go.RowKit Go.Proofs.YtenigkhfldafaaaDoorW.PrintWords
set_option maxRecDepth 100000
def hxN (n : Nat) : UInt8 := UInt8.ofNat (if n < 10 then 48 + n else 87 + n)
def q1 (c : UInt8) : List UInt8 := if c = 34 ∨ c = 92 then [92, c] else if c = 10 then [92, 110] else if c.toNat < 32 ∨ 126 < c.toNat then [92, 120, hxN (c.toNat / 16), hxN (c.toNat % 16)] else [c]
def qb : List UInt8 → List UInt8
 | [] => []
 | c :: r => q1 c ++ qb r
def qt (l : List UInt8) : List UInt8 := 34 :: (qb l ++ [34])
def nb (l : List UInt8) : List Int := l.map fun c => (c.toNat : Int)
theorem nums_nb (l : List UInt8) : strOfNums (nb l) = B l := by
 rw [nums_data, nb, List.map_map]
 congr 1
 conv => rhs; rw [← List.map_id l]
 apply List.map_congr_left
 intro c _
 simp
theorem q1_len (c : UInt8) : 1 ≤ (q1 c).length ∧ (q1 c).length ≤ 4 := by
 unfold q1
 repeat' split
 all_goals simp
theorem qb_len : ∀ l : List UInt8, l.length ≤ (qb l).length ∧ (qb l).length ≤ 4 * l.length
 | [] => ⟨Nat.le_refl _, Nat.le_refl _⟩
 | c :: r => by
  have h1 := qb_len r
  have h2 := q1_len c
  simp only [qb, List.length_append, List.length_cons]
  omega
theorem dig_all : ∀ n : Fin 256, bt (⟨#[48, 49, 50, 51, 52, 53, 54, 55, 56, 57, 97, 98, 99, 100, 101, 102]⟩ : ByteArray) ((n.val : Int) / 16) = ((hxN (n.val / 16)).toNat : Int) ∧ Go.bits .and .u8 (n.val : Int) 15 = ((n.val % 16 : Nat) : Int) ∧ bt (⟨#[48, 49, 50, 51, 52, 53, 54, 55, 56, 57, 97, 98, 99, 100, 101, 102]⟩ : ByteArray) ((n.val % 16 : Nat) : Int) = ((hxN (n.val % 16)).toNat : Int) := by decide +kernel
theorem dig_u8 (c : UInt8) : bt (⟨#[48, 49, 50, 51, 52, 53, 54, 55, 56, 57, 97, 98, 99, 100, 101, 102]⟩ : ByteArray) ((c.toNat : Int) / 16) = ((hxN (c.toNat / 16)).toNat : Int) ∧ Go.bits .and .u8 (c.toNat : Int) 15 = ((c.toNat % 16 : Nat) : Int) ∧ bt (⟨#[48, 49, 50, 51, 52, 53, 54, 55, 56, 57, 97, 98, 99, 100, 101, 102]⟩ : ByteArray) ((c.toNat % 16 : Nat) : Int) = ((hxN (c.toNat % 16)).toNat : Int) := dig_all ⟨c.toNat, c.toNat_lt⟩
theorem quote_l (s : ByteArray) (hs : s.size ≤ 10000000) : ∀ (d : List UInt8) (i : Nat) (acc : List Int), s.toList.drop i = d → acc.length ≤ 4 * i + 1 → i ≤ s.size →
  Ev (fun k => shell_quote.l0 k acc (bytesOf s) (s.size : Int) (i : Int)) (strOfNums (acc ++ (nb (qb d) ++ [34])))
 | [], i, acc, hd, ha, hi => by
  have hn := at_nil hd
  exact Ev.step (fun k => shell_quote.l0.eq_2 _ _ _ _ _) (Ev.ifn (by omega) (Ev.ifp (by omega) (Ev.now _)))
 | c :: r, i, acc, hd, ha, hi => by
  obtain ⟨hn, hb, hr, hz⟩ := at_cons hd
  have hl : (bytesOf s).length = s.size := bytesOf_length s
  have hrd : rd (bytesOf s) (i : Int) = (c.toNat : Int) := by rw [bytes_rd s i hn, hb]
  have e1 := w1 (n := i) (by omega)
  have hlen := q1_len c
  have next : ∀ (p : List Int), p = nb (q1 c) → ∀ (R : Nat → Option ByteArray), (∀ k, R k = shell_quote.l0 k (acc ++ p) (bytesOf s) (s.size : Int) (wrap64 ((i : Int) + 1))) → Ev R (strOfNums (acc ++ (nb (qb (c :: r)) ++ [34]))) := by
   intro p hp R hR
   refine Ev.congr hR ?_
   simp only [e1]
   have := quote_l s hs r (i + 1) (acc ++ p) hr (by rw [List.length_append, hp, nb, List.length_map]; omega) (by omega)
   rw [List.append_assoc, hp, ← List.append_assoc (nb (q1 c))] at this
   rw [show nb (qb (c :: r)) = nb (q1 c) ++ nb (qb r) by simp [qb, nb], hp]
   exact this
  obtain ⟨g1, g2, g3⟩ := dig_u8 c
  have hc := c.toNat_lt
  have into : ∀ b : Bool, (b = true ↔ (c = 34 ∨ c = 92)) → Ev (fun k => shell_quote.j1 k acc (c.toNat : Int) (bytesOf s) (s.size : Int) (i : Int) b) (strOfNums (acc ++ (nb (qb (c :: r)) ++ [34]))) := by
   intro b hbi
   by_cases h1 : c = 34 ∨ c = 92
   ·refine Ev.step (fun k => shell_quote.j1.eq_2 _ _ _ _ _ _ _) (Ev.ifp (hbi.2 h1) (Ev.cb rfl (Ev.ifp (by simp only [List.length_cons, List.length_nil]; omega) ?_)))
    exact next [92, (c.toNat : Int)] (by rw [q1, if_pos h1]; rfl) _ (fun k => rfl)
   have hbn : ¬ b = true := fun h => h1 (hbi.1 h)
   by_cases h2 : c = 10
   ·refine Ev.step (fun k => shell_quote.j1.eq_2 _ _ _ _ _ _ _) (Ev.ifn hbn (Ev.ifp ((u8_eq (d := 10) rfl).2 h2) (Ev.cb rfl (Ev.ifp (by simp only [List.length_cons, List.length_nil]; omega) ?_))))
    exact next [92, 110] (by rw [q1, if_neg h1, if_pos h2]; rfl) _ (fun k => rfl)
   have h2' : ¬ ((c.toNat : Int) = 10) := fun h => h2 ((u8_eq (d := 10) rfl).1 h)
   by_cases h3 : (c.toNat : Int) < 32
   ·refine Ev.step (fun k => shell_quote.j1.eq_2 _ _ _ _ _ _ _) (Ev.ifn hbn (Ev.ifn h2' (Ev.ifp h3 (Ev.ifp (by omega) (Ev.ifp (by omega) (Ev.ifp (by rw [g2]; omega) (Ev.ifp (by rw [g2]; omega) (Ev.cb rfl (Ev.ifp (by simp only [List.length_cons, List.length_nil]; omega) ?_)))))))))
    exact next _ (by rw [q1, if_neg h1, if_neg h2, if_pos (by omega), g1, g2, g3]; rfl) _ (fun k => rfl)
   by_cases h4 : (c.toNat : Int) > 126
   ·refine Ev.step (fun k => shell_quote.j1.eq_2 _ _ _ _ _ _ _) (Ev.ifn hbn (Ev.ifn h2' (Ev.ifn h3 (Ev.ifp h4 (Ev.ifp (by omega) (Ev.ifp (by omega) (Ev.ifp (by rw [g2]; omega) (Ev.ifp (by rw [g2]; omega) (Ev.cb rfl (Ev.ifp (by simp only [List.length_cons, List.length_nil]; omega) ?_))))))))))
    exact next _ (by rw [q1, if_neg h1, if_neg h2, if_pos (by omega), g1, g2, g3]; rfl) _ (fun k => rfl)
   ·refine Ev.step (fun k => shell_quote.j1.eq_2 _ _ _ _ _ _ _) (Ev.ifn hbn (Ev.ifn h2' (Ev.ifn h3 (Ev.ifn h4 (Ev.ifp (by omega) ?_)))))
    exact next [(c.toNat : Int)] (by rw [q1, if_neg h1, if_neg h2, if_neg (by omega)]; rfl) _ (fun k => rfl)
  by_cases h34 : c = 34
  ·refine Ev.step (fun k => shell_quote.l0.eq_2 _ _ _ _ _) (Ev.ifp (by omega) (Ev.ifp (by omega) (Ev.ifp (by rw [hl]; omega) (Ev.ifp (by rw [hrd]; exact (u8_eq (d := 34) rfl).2 h34) ?_))))
   simp only [hrd]
   exact into true ⟨fun _ => .inl h34, fun _ => rfl⟩
  ·refine Ev.step (fun k => shell_quote.l0.eq_2 _ _ _ _ _) (Ev.ifp (by omega) (Ev.ifp (by omega) (Ev.ifp (by rw [hl]; omega) (Ev.ifn (by rw [hrd]; exact fun h => h34 ((u8_eq (d := 34) rfl).1 h)) ?_))))
   simp only [hrd]
   refine into _ ⟨fun h => .inr ((u8_eq (d := 92) rfl).1 (beq_iff_eq.1 h)), fun h => ?_⟩
   rcases h with h | h
   ·exact absurd h h34
   ·exact beq_iff_eq.2 ((u8_eq (d := 92) rfl).2 h)
theorem quote_ev (s : ByteArray) (hs : s.size ≤ 10000000) : Ev (fun k => shell_quote.f k s) (B (qt s.toList)) := by
 have h := quote_l s hs s.toList 0 [34] rfl (by simp) (Nat.zero_le _)
 refine Ev.ifp (by omega) (Ev.cb rfl ?_)
 simp only [bytesOf_length]
 have e : strOfNums ([34] ++ (nb (qb s.toList) ++ [34])) = B (qt s.toList) := by
  rw [← nums_nb]
  congr 1
  simp [qt, nb]
 rw [← e]
 exact h
def Stop (r : List UInt8) : Prop := r = [] ∨ ∃ c t, r = c :: t ∧ gapB c = true
end Go.Proofs.YtenigkhfldafaaaDoor.A
