/- Reading a line: what its parts answer, whatever it says. -/
import Derived.Test.YtenigkhfldafaaaDoorA10
import Derived.Test.YtenigkhfldafaaaDoorQ1
namespace Go.Proofs.YtenigkhfldafaaaDoor.A
open Go.RowKit Go.Proofs.YtenigkhfldafaaaDoorW.PrintWords
set_option maxRecDepth 100000
theorem Ev.ifp {α : Type} {p : Prop} [Decidable p] {a b : Nat → Option α} {r : α} (h : p) (k : Ev a r) : Ev (fun n => if p then a n else b n) r := Ev.congr (fun _ => if_pos h) k
theorem Ev.ifn {α : Type} {p : Prop} [Decidable p] {a b : Nat → Option α} {r : α} (h : ¬ p) (k : Ev b r) : Ev (fun n => if p then a n else b n) r := Ev.congr (fun _ => if_neg h) k
theorem Ev.cb {α β : Type} {o : Option α} {f : Nat → α → Option β} {a : α} {r : β} (h : o = some a) (k : Ev (fun n => f n a) r) : Ev (fun n => o.bind (f n)) r := Ev.congr (fun _ => by rw [h, Option.bind_some]) k
theorem at_cons {s : ByteArray} {n : Nat} {c : UInt8} {r : List UInt8} (h : s.toList.drop n = c :: r) : n < s.size ∧ bt s (n : Int) = (c.toNat : Int) ∧ s.toList.drop (n + 1) = r ∧ s.size = n + 1 + r.length := by
 have hl := congrArg List.length h
 rw [List.length_drop, size_list, List.length_cons] at hl
 have hn : n < s.toList.length := by rw [size_list]; omega
 have e := List.drop_eq_getElem_cons hn
 rw [h] at e
 obtain ⟨e1, e2⟩ := List.cons.inj e
 refine ⟨by omega, by rw [bt_list s n hn, ← e1], e2.symm, by omega⟩
theorem at_nil {s : ByteArray} {n : Nat} (h : s.toList.drop n = []) : s.size ≤ n := by
 have hl := congrArg List.length h
 rw [List.length_drop, size_list, List.length_nil] at hl
 omega
theorem w1 {n : Nat} (h : n ≤ 1000000000) : wrap64 ((n : Int) + 1) = ((n + 1 : Nat) : Int) := by rw [wrap_small (by omega) (by omega)]; rfl
theorem w2 {n : Nat} (h : n ≤ 1000000000) : wrap64 ((n : Int) + 2) = ((n + 2 : Nat) : Int) := by rw [wrap_small (by omega) (by omega)]; rfl
def gapB (c : UInt8) : Bool := c == 32 || c == 9
theorem u8_eq {c d : UInt8} {z : Int} (hd : (d.toNat : Int) = z) : ((c.toNat : Int) = z) ↔ c = d := by
 constructor
 ·intro h
  apply UInt8.toNat.inj
  omega
 ·rintro rfl
  exact hd
theorem blank_f (c : UInt8) : shell_blank.f (c.toNat : Int) = some (gapB c) := by
 unfold shell_blank.f gapB
 by_cases h : c = 32
 ·subst h; rfl
 ·rw [if_neg (show ¬ ((c.toNat : Int) = 32) from fun e => h ((u8_eq (d := 32) rfl).1 e))]
  have h1 : (c == 32) = false := by simpa using h
  rw [h1, Bool.false_or]
  by_cases h9 : c = 9
  ·subst h9; rfl
  ·have e1 : (c == 9) = false := by simpa using h9
   have e2 : (((c.toNat : Int)) == 9) = false := beq_eq_false_iff_ne.2 (fun e => h9 ((u8_eq (d := 9) rfl).1 e))
   rw [e1, e2]
theorem end_f (s : ByteArray) (n : Nat) : shell_line_end.f s (n : Int) = some (decide (s.size ≤ n), s, (n : Int)) := by
 unfold shell_line_end.f
 congr 2
 exact decide_eq_decide.2 (by omega)
theorem end_y {s : ByteArray} {n : Nat} (h : s.size ≤ n) : shell_line_end.f s (n : Int) = some (true, s, (n : Int)) := by rw [end_f, decide_eq_true h]
theorem end_n {s : ByteArray} {n : Nat} (h : n < s.size) : shell_line_end.f s (n : Int) = some (false, s, (n : Int)) := by rw [end_f, decide_eq_false (by omega)]
end Go.Proofs.YtenigkhfldafaaaDoor.A
