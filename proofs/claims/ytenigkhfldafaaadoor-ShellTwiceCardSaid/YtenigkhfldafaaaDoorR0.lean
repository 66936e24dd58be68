/- Reading a line: what its parts answer, whatever it says. -/
import Derived.Test.YtenigkhfldafaaaDoorA10
import Derived.Test.YtenigkhfldafaaaDoorQ1
namespace Go.Proofs.YtenigkhfldafaaaDoor.A
open Go.RowKit Go.Proofs.YtenigkhfldafaaaDoorW.PrintWords
set_option maxRecDepth 100000
theorem Ev.ifp {α : Type} {p : Prop} [Decidable p] {a b : Nat → Option α} {r : α} (h : p) (k : Ev a r) : Ev (fun n => if p then a n else b n) r := Ev.congr (fun _ => if_pos h) k
theorem Ev.ifn {α : Type} {p : Prop} [Decidable p] {a b : Nat → Option α} {r : α} (h : ¬ p) (k : Ev b r) : Ev (fun n => if p then a n else b n) r := Ev.congr (fun _ => if_neg h) k
theorem Ev.cb {α β : Type} {o : Option α} {f : Nat → α → Option β} {a : α} {r : β} (h : o = some a) (k : Ev (fun n => f n a) r) : Ev (fun n => o.bind (f n)) r := Ev.congr (fun _ => by rw [h, Option.bind_some]) k
theorem at_cons {s : ByteArray} {n : Nat} {c : UInt8} {r : List UInt8} (h : s.toList.drop n = c :: r) : n < s.size ∧ bt s (n : Int) = (c.toNat : Int) ∧ s.toList.drop (n + 1) = r ∧ s.size = n + 1 + r.length := by
  have hl := congrArg List.length h
  rw [List.length_drop, size_list, List.length_cons] at hl
  have hn : n < s.toList.length := by rw [size_list]; omega
  have e := List.drop_eq_getElem_cons hn
  rw [h] at e
  obtain ⟨e1, e2⟩ := List.cons.inj e
  refine ⟨by omega, by rw [bt_list s n hn, ← e1], e2.symm, by omega⟩
theorem at_nil {s : ByteArray} {n : Nat} (h : s.toList.drop n = []) : s.size ≤ n := by
  have hl := congrArg List.length h
  rw [List.length_drop, size_list, List.length_nil] at hl
  omega
theorem at_lt {s : ByteArray} {n : Nat} (h : n < s.size) : ∃ c r, s.toList.drop n = c :: r := by
  cases hd : s.toList.drop n with
  | nil => exact absurd (at_nil hd) (by omega)
  | cons c r => exact ⟨c, r, rfl⟩
theorem w1 {n : Nat} (h : n ≤ 1000000) : wrap64 ((n : Int) + 1) = ((n + 1 : Nat) : Int) := by rw [wrap_small (by omega) (by omega)]; rfl
theorem w2 {n : Nat} (h : n ≤ 1000000) : wrap64 ((n : Int) + 2) = ((n + 2 : Nat) : Int) := by rw [wrap_small (by omega) (by omega)]; rfl
def gapB (c : UInt8) : Bool := c == 32 || c == 9
theorem u8_eq {c d : UInt8} {z : Int} (hd : (d.toNat : Int) = z) : ((c.toNat : Int) = z) ↔ c = d := by
  constructor
  · intro h
    apply UInt8.toNat.inj
    omega
  · rintro rfl
    exact hd
theorem blank_f (c : UInt8) : shell_blank.f (c.toNat : Int) = some (gapB c) := by
  unfold shell_blank.f gapB
  by_cases h : c = 32
  · subst h; rfl
  · rw [if_neg (show ¬ ((c.toNat : Int) = 32) from fun e => h ((u8_eq (d := 32) rfl).1 e))]
    have h1 : (c == 32) = false := by simpa using h
    rw [h1, Bool.false_or]
    by_cases h9 : c = 9
    · subst h9; rfl
    · have e1 : (c == 9) = false := by simpa using h9
      have e2 : (((c.toNat : Int)) == 9) = false := beq_eq_false_iff_ne.2 (fun e => h9 ((u8_eq (d := 9) rfl).1 e))
      rw [e1, e2]
def skipN : List UInt8 → Nat
  | [] => 0
  | c :: r => if gapB c = true then skipN r + 1 else if c = 35 then r.length + 1 else 0
theorem skipN_le : ∀ r : List UInt8, skipN r ≤ r.length
  | [] => Nat.le_refl _
  | c :: r => by
    have := skipN_le r
    unfold skipN
    repeat' split
    all_goals simp only [List.length_cons]; omega
theorem skipN_at : ∀ (r : List UInt8) (c : UInt8) (r' : List UInt8), r.drop (skipN r) = c :: r' → gapB c = false
  | [], _, _, h => by simp at h
  | d :: r, c, r', h => by
    unfold skipN at h
    by_cases hg : gapB d = true
    · rw [if_pos hg, List.drop_succ_cons] at h
      exact skipN_at r c r' h
    · rw [if_neg hg] at h
      by_cases h5 : d = 35
      · rw [if_pos h5] at h
        simp at h
      · rw [if_neg h5, List.drop_zero] at h
        rw [← (List.cons.inj h).1]
        simpa using hg
theorem end_f (s : ByteArray) (n : Nat) : shell_line_end.f s (n : Int) = some (decide (s.size ≤ n), s, (n : Int)) := by
  unfold shell_line_end.f
  congr 2
  exact decide_eq_decide.2 (by omega)
theorem end_y {s : ByteArray} {n : Nat} (h : s.size ≤ n) : shell_line_end.f s (n : Int) = some (true, s, (n : Int)) := by rw [end_f, decide_eq_true h]
theorem end_n {s : ByteArray} {n : Nat} (h : n < s.size) : shell_line_end.f s (n : Int) = some (false, s, (n : Int)) := by rw [end_f, decide_eq_false (by omega)]
theorem skip_ev (s : ByteArray) (hs : s.size ≤ 100000) : ∀ (r : List UInt8) (n : Nat), s.toList.drop n = r → Ev (fun k => shell_line_skip.f k s (n : Int)) (s, ((n + skipN r : Nat) : Int))
  | [], n, h => by
    have hn := at_nil h
    exact Ev.step (fun k => shell_line_skip.l0.eq_2 _ _ _) (Ev.cb (end_y hn) (Ev.ifp rfl (Ev.step (fun k => shell_line_skip.j1.eq_2 _ _ _) (Ev.cb (end_y hn) (Ev.ifp rfl (Ev.now _))))))
  | c :: r, n, h => by
    obtain ⟨hn, hb, hr, hz⟩ := at_cons h
    by_cases hg : gapB c = true
    · refine Ev.step (fun k => shell_line_skip.l0.eq_2 _ _ _) (Ev.cb (end_n hn) (Ev.ifn Bool.false_ne_true (Ev.ifp (Int.natCast_nonneg n) (Ev.ifp (Int.ofNat_lt.2 hn) (Ev.cb (by rw [hb]; exact blank_f c) (Ev.ifp hg ?_))))))
      have := skip_ev s hs r (n + 1) hr
      rw [skipN, if_pos hg, show n + (skipN r + 1) = n + 1 + skipN r by omega]
      simp only [w1 (n := n) (by omega)]
      exact this
    · refine Ev.step (fun k => shell_line_skip.l0.eq_2 _ _ _) (Ev.cb (end_n hn) (Ev.ifn Bool.false_ne_true (Ev.ifp (Int.natCast_nonneg n) (Ev.ifp (Int.ofNat_lt.2 hn) (Ev.cb (by rw [hb]; exact blank_f c) (Ev.ifn hg (Ev.step (fun k => shell_line_skip.j1.eq_2 _ _ _) (Ev.cb (end_n hn) (Ev.ifn Bool.false_ne_true (Ev.ifp (Int.natCast_nonneg n) (Ev.ifp (Int.ofNat_lt.2 hn) ?_)))))))))))
      rw [skipN, if_neg hg]
      by_cases h35 : c = 35
      · rw [if_pos h35, show n + (r.length + 1) = s.size by omega]
        exact Ev.ifp (by rw [hb]; exact (u8_eq (d := 35) rfl).2 h35) (Ev.now _)
      · rw [if_neg h35]
        exact Ev.ifn (by rw [hb]; exact fun e => h35 ((u8_eq (d := 35) rfl).1 e)) (Ev.now _)
theorem bt_u8 {s : ByteArray} {n : Nat} (h : n < s.size) : ∃ c : UInt8, bt s (n : Int) = (c.toNat : Int) := by
  obtain ⟨c, r, hd⟩ := at_lt h
  exact ⟨c, (at_cons hd).2.1⟩
theorem hex_ev (c : UInt8) : ∃ d : Int, (-1 ≤ d ∧ d ≤ 15) ∧ Ev (fun k => shell_hex.f k (c.toNat : Int)) d := by
  have hc : (c.toNat : Int) < 256 := by have := c.toNat_lt; omega
  have h0 : 0 ≤ (c.toNat : Int) := by omega
  generalize (c.toNat : Int) = x at hc h0 ⊢
  by_cases h1 : x ≥ 48
  · by_cases h2 : x ≤ 57
    · exact ⟨(x - 48) % 256, by omega, Ev.ifp h1 (Ev.step (fun k => shell_hex.j0.eq_2 _ _ _) (Ev.ifp (decide_eq_true h2) (Ev.now _)))⟩
    · by_cases h3 : x ≥ 97
      · by_cases h4 : x ≤ 102
        · exact ⟨((x - 97) % 256) + 10, by omega, Ev.ifp h1 (Ev.step (fun k => shell_hex.j0.eq_2 _ _ _) (Ev.ifn (by simp [h2]) (Ev.ifp h3 (Ev.ifp h4 (Ev.now _)))))⟩
        · exact ⟨-1, by omega, Ev.ifp h1 (Ev.step (fun k => shell_hex.j0.eq_2 _ _ _) (Ev.ifn (by simp [h2]) (Ev.ifp h3 (Ev.ifn h4 (Ev.now _)))))⟩
      · exact ⟨-1, by omega, Ev.ifp h1 (Ev.step (fun k => shell_hex.j0.eq_2 _ _ _) (Ev.ifn (by simp [h2]) (Ev.ifn h3 (Ev.now _))))⟩
  · exact ⟨-1, by omega, Ev.ifn h1 (Ev.step (fun k => shell_hex.j0.eq_2 _ _ _) (Ev.ifn (by decide) (Ev.ifn (by omega) (Ev.now _))))⟩
theorem esc_j (s : ByteArray) (hs : s.size ≤ 100000) (x y : Int) (b : Bool) (m : Nat) (hm : m ≤ s.size) : ∃ (v : Int) (ok : Bool) (n' : Nat), Ev (fun k => shell_line_escape.j0 k x y b s (m : Int)) (v, ok, s, (n' : Int)) ∧ m ≤ n' ∧ n' ≤ s.size := by
  by_cases h1 : b = true
  · exact ⟨x, true, m, Ev.step (fun k => shell_line_escape.j0.eq_2 _ _ _ _ _ _) (Ev.ifp h1 (Ev.now _)), Nat.le_refl _, hm⟩
  by_cases h2 : y = 110
  · exact ⟨10, true, m, Ev.step (fun k => shell_line_escape.j0.eq_2 _ _ _ _ _ _) (Ev.ifn h1 (Ev.ifp h2 (Ev.now _))), Nat.le_refl _, hm⟩
  by_cases h3 : y = 120
  · by_cases h4 : s.size < m + 2
    · exact ⟨0, false, m, Ev.step (fun k => shell_line_escape.j0.eq_2 _ _ _ _ _ _) (Ev.ifn h1 (Ev.ifn h2 (Ev.ifp h3 (Ev.ifp (by rw [wrap_small (by omega) (by omega)]; omega) (Ev.now _))))), Nat.le_refl _, hm⟩
    · obtain ⟨c, hc⟩ := bt_u8 (s := s) (n := m) (by omega)
      obtain ⟨d, hd⟩ := bt_u8 (s := s) (n := m + 1) (by omega)
      obtain ⟨p, hp, ep⟩ := hex_ev c
      obtain ⟨q, hq, eq⟩ := hex_ev d
      have ew := w1 (n := m) (by omega)
      by_cases h5 : p ≥ 0
      · refine ⟨(wrap64 (wrap64 (16 * mx p 0) + mx q 0)) % 256, decide (q ≥ 0), m + 2, Ev.step (fun k => shell_line_escape.j0.eq_2 _ _ _ _ _ _) (Ev.ifn h1 (Ev.ifn h2 (Ev.ifp h3 (Ev.ifn (by rw [wrap_small (by omega) (by omega)]; omega) (Ev.ifp (by omega) (Ev.ifp (by omega) (Ev.bind (by rw [hc]; exact ep) (Ev.ifp (by rw [ew]; omega) (Ev.ifp (by rw [ew]; omega) (Ev.bind (by rw [ew, hd]; exact eq) (Ev.ifp h5 ?_))))))))))), by omega, by omega⟩
        rw [w2 (by omega)]
        exact Ev.now _
      · refine ⟨(wrap64 (wrap64 (16 * mx p 0) + mx q 0)) % 256, false, m + 2, Ev.step (fun k => shell_line_escape.j0.eq_2 _ _ _ _ _ _) (Ev.ifn h1 (Ev.ifn h2 (Ev.ifp h3 (Ev.ifn (by rw [wrap_small (by omega) (by omega)]; omega) (Ev.ifp (by omega) (Ev.ifp (by omega) (Ev.bind (by rw [hc]; exact ep) (Ev.ifp (by rw [ew]; omega) (Ev.ifp (by rw [ew]; omega) (Ev.bind (by rw [ew, hd]; exact eq) (Ev.ifn h5 ?_))))))))))), by omega, by omega⟩
        rw [w2 (by omega)]
        exact Ev.now _
  · exact ⟨0, false, m, Ev.step (fun k => shell_line_escape.j0.eq_2 _ _ _ _ _ _) (Ev.ifn h1 (Ev.ifn h2 (Ev.ifn h3 (Ev.now _)))), Nat.le_refl _, hm⟩
theorem esc_tot (s : ByteArray) (hs : s.size ≤ 100000) (n : Nat) (hn : n ≤ s.size) : ∃ (v : Int) (ok : Bool) (n' : Nat), Ev (fun k => shell_line_escape.f k s (n : Int)) (v, ok, s, (n' : Int)) ∧ n ≤ n' ∧ n' ≤ s.size ∧ (ok = true → n < n') := by
  by_cases h : s.size ≤ n
  · exact ⟨0, false, n, Ev.cb (end_y h) (Ev.ifp rfl (Ev.now _)), Nat.le_refl _, hn, fun h => by cases h⟩
  · have hlt : n < s.size := by omega
    by_cases h9 : bt s (n : Int) = 92
    · obtain ⟨v, ok, n', e, h1, h2⟩ := esc_j s hs (bt s (n : Int)) (bt s (n : Int)) (bt s (n : Int) == 92) (n + 1) (by omega)
      refine ⟨v, ok, n', Ev.cb (end_n hlt) (Ev.ifn Bool.false_ne_true (Ev.ifp (Int.natCast_nonneg n) (Ev.ifp (Int.ofNat_lt.2 hlt) (Ev.ifp h9 ?_)))), by omega, h2, fun _ => by omega⟩
      simp only [w1 (n := n) (by omega)]
      exact e
    · obtain ⟨v, ok, n', e, h1, h2⟩ := esc_j s hs (bt s (n : Int)) (bt s (n : Int)) (bt s (n : Int) == 34) (n + 1) (by omega)
      refine ⟨v, ok, n', Ev.cb (end_n hlt) (Ev.ifn Bool.false_ne_true (Ev.ifp (Int.natCast_nonneg n) (Ev.ifp (Int.ofNat_lt.2 hlt) (Ev.ifn h9 ?_)))), by omega, h2, fun _ => by omega⟩
      simp only [w1 (n := n) (by omega)]
      exact e
end Go.Proofs.YtenigkhfldafaaaDoor.A
