/- Reading a line: what its words are, whatever it says. -/
import Derived.Test.YtenigkhfldafaaaDoorR0
namespace Go.Proofs.YtenigkhfldafaaaDoor.A
open Go.RowKit Go.Proofs.YtenigkhfldafaaaDoorW.PrintWords
set_option maxRecDepth 100000
theorem nums_data (xs : List Int) : strOfNums xs = B (xs.map fun n => UInt8.ofNat n.toNat) := rfl
theorem bytes_rd (t : ByteArray) (i : Nat) (h : i < t.size) : rd (bytesOf t) (i : Int) = bt t (i : Int) := by
 have hl : i < t.toList.length := by rw [size_list]; exact h
 rw [bt_list t i hl]
 unfold rd bytesOf
 simp only [Int.toNat_natCast, ← ByteArray.toList_eq]
 simp [List.getD_eq_getElem?_getD, hl]
theorem counted_l (s t : ByteArray) (ht : t.size ≤ 18) : ∀ (d i : Nat) (x : Int), i + d = t.size → 0 ≤ x → x < 10 ^ i →
  ∃ (n : Int) (ok : Bool), Ev (fun k => shell_counted.l0 k s t x (bytesOf t) (t.size : Int) (i : Int)) (n, ok) ∧ (ok = true → -1000000000000000000 < n ∧ n < 1000000000000000000) := by
 intro d
 induction d with
 | zero =>
  intro i x hi h0 h1
  have hx : x < 1000000000000000000 := by
   have : (10 : Int) ^ i ≤ 10 ^ 18 := by
    have := Nat.pow_le_pow_right (n := 10) (by decide) (show i ≤ 18 by omega)
    have := Int.ofNat_le.2 this
    simpa using this
   omega
  by_cases hz : (t.size : Int) < (s.size : Int)
  ·refine ⟨-x, true, Ev.step (fun k => shell_counted.l0.eq_2 _ _ _ _ _ _ _) (Ev.ifn (by omega) (Ev.ifp hz ?_)), fun _ => by omega⟩
   rw [wrap_small (by omega) (by omega)]
   exact Ev.now _
  ·exact ⟨x, true, Ev.step (fun k => shell_counted.l0.eq_2 _ _ _ _ _ _ _) (Ev.ifn (by omega) (Ev.ifn hz (Ev.now _))), fun _ => by omega⟩
 | succ d ih =>
  intro i x hi h0 h1
  have hl : (bytesOf t).length = t.size := bytesOf_length t
  by_cases h48 : rd (bytesOf t) (i : Int) < 48
  ·exact ⟨0, false, Ev.step (fun k => shell_counted.l0.eq_2 _ _ _ _ _ _ _) (Ev.ifp (by omega) (Ev.ifp (by omega) (Ev.ifp (by rw [hl]; omega) (Ev.ifp h48 (Ev.now _))))), fun h => by cases h⟩
  by_cases h57 : rd (bytesOf t) (i : Int) > 57
  ·exact ⟨0, false, Ev.step (fun k => shell_counted.l0.eq_2 _ _ _ _ _ _ _) (Ev.ifp (by omega) (Ev.ifp (by omega) (Ev.ifp (by rw [hl]; omega) (Ev.ifn h48 (Ev.ifp h57 (Ev.now _)))))), fun h => by cases h⟩
  have hx : x < 100000000000000000 := by
   have : (10 : Int) ^ i ≤ 10 ^ 17 := by
    have := Nat.pow_le_pow_right (n := 10) (by decide) (show i ≤ 17 by omega)
    have := Int.ofNat_le.2 this
    simpa using this
   omega
  obtain ⟨n, ok, e, hn⟩ := ih (i + 1) (10 * x + (rd (bytesOf t) (i : Int) - 48) % 256) (by omega) (by omega) (by rw [Int.pow_succ]; omega)
  refine ⟨n, ok, Ev.step (fun k => shell_counted.l0.eq_2 _ _ _ _ _ _ _) (Ev.ifp (by omega) (Ev.ifp (by omega) (Ev.ifp (by rw [hl]; omega) (Ev.ifn h48 (Ev.ifn h57 ?_))))), hn⟩
  rw [w1 (by omega), wrap_small (i := 10 * x) (by omega) (by omega), wrap_small (by omega) (by omega)]
  exact e
theorem counted_tot (s : ByteArray) (_hs : s.size ≤ 100000) : ∃ (n : Int) (ok : Bool), Ev (fun k => shell_counted.f k s) (n, ok) ∧ (ok = true → -1000000000000000000 < n ∧ n < 1000000000000000000) := by
 generalize ht : (⟨(Lib.trimPrefix s.data.toList [45]).toArray⟩ : ByteArray) = t
 have e : strings_TrimPrefix.f s ⟨#[45]⟩ = some t := congrArg some ht
 have hz : t.size ≤ s.size := by
  rw [← ht]
  show (Lib.trimPrefix s.data.toList [45]).length ≤ _
  rw [← ByteArray.toList_eq, ← size_list]
  unfold Lib.trimPrefix
  split
  ·rw [List.length_drop]; omega
  ·exact Nat.le_refl _
 by_cases h0 : t.toList = []
 ·exact ⟨0, false, Ev.cb e (Ev.ifp h0 (Ev.step (fun k => shell_counted.j0.eq_2 _ _ _ _) (Ev.ifp rfl (Ev.now _)))), fun h => by cases h⟩
 by_cases h18 : (t.size : Int) > 18
 ·exact ⟨0, false, Ev.cb e (Ev.ifn h0 (Ev.step (fun k => shell_counted.j0.eq_2 _ _ _ _) (Ev.ifp (decide_eq_true h18) (Ev.now _)))), fun h => by cases h⟩
 obtain ⟨n, ok, e2, hn⟩ := counted_l s t (by omega) t.size 0 0 (by omega) (by omega) (by decide)
 refine ⟨n, ok, Ev.cb e (Ev.ifn h0 (Ev.step (fun k => shell_counted.j0.eq_2 _ _ _ _) (Ev.ifn (by simpa using h18) (Ev.ifp (by omega) (Ev.cb rfl ?_))))), hn⟩
 simp only [bytesOf_length]
 exact e2
structure GoodW (M : Nat) (w : S88) : Prop where
 kd : w.f0 = 0 ∨ w.f0 = 1 ∨ w.f0 = 2
 num : w.f0 = 1 → -1000000000000000000 < w.f2 ∧ w.f2 < 1000000000000000000
 size : w.f1.size ≤ M
end Go.Proofs.YtenigkhfldafaaaDoor.A
