/- Reading a line: what its parts answer, whatever it says. -/
import Derived.Test.YtenigkhfldafaaaDoorA10
import Derived.Test.YtenigkhfldafaaaDoorQ1
namespace Go.Proofs.YtenigkhfldafaaaDoor.A
open Go.RowKit Go.Proofs.YtenigkhfldafaaaDoorW.PrintWords
set_option maxRecDepth 100000
theorem Ev.ifp {α : Type} {p : Prop} [Decidable p] {a b : Nat → Option α} {r : α} (h : p) (k : Ev a r) : Ev (fun n => if p then a n else b n) r := Ev.congr (fun _ => if_pos h) k
theorem Ev.ifn {α : Type} {p : Prop} [Decidable p] {a b : Nat → Option α} {r : α} (h : ¬ p) (k : Ev b r) : Ev (fun n => if p then a n else b n) r := Ev.congr (fun _ => if_neg h) k
theorem Ev.cb {α β : Type} {o : Option α} {f : Nat → α → Option β} {a : α} {r : β} (h : o = some a) (k : Ev (fun n => f n a) r) : Ev (fun n => o.bind (f n)) r := Ev.congr (fun _ => by rw [h, Option.bind_some]) k
theorem at_cons {s : ByteArray} {n : Nat} {c : UInt8} {r : List UInt8} (h : s.toList.drop n = c :: r) : n < s.size ∧ bt s (n : Int) = (c.toNat : Int) ∧ s.toList.drop (n + 1) = r ∧ s.size = n + 1 + r.length := by
 have hl := congrArg List.length h
 rw [List.length_drop, size_list, List.length_cons] at hl
 have hn : n < s.toList.length := by rw [size_list]; omega
 have e := List.drop_eq_getElem_cons hn
 rw [h] at e
 obtain ⟨e1, e2⟩ := List.cons.inj e
 refine ⟨by omega, by rw [bt_list s n hn, ← e1], e2.symm, by omega⟩
theorem at_nil {s : ByteArray} {n : Nat} (h : s.toList.drop n = []) : s.size ≤ n := by
 have hl := congrArg List.length h
 rw [List.length_drop, size_list, List.length_nil] at hl
 omega
theorem w1 {n : Nat} (h : n ≤ 1000000000) : wrap64 ((n : Int) + 1) = ((n + 1 : Nat) : Int) := by rw [wrap_small (by omega) (by omega)]; rfl
theorem w2 {n : Nat} (h : n ≤ 1000000000) : wrap64 ((n : Int) + 2) = ((n + 2 : Nat) : Int) := by rw [wrap_small (by omega) (by omega)]; rfl
def gapB (c : UInt8) : Bool := c == 32 || c == 9
theorem u8_eq {c d : UInt8} {z : Int} (hd : (d.toNat : Int) = z) : ((c.toNat : Int) = z) ↔ c = d := by
 constructor
 ·intro h
  apply UInt8.toNat.inj
  omega
 ·rintro rfl
  exact hd
end Go.Proofs.YtenigkhfldafaaaDoor.A
