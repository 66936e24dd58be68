/- Reading a line: what its words are, whatever it says. -/
import Derived.Test.YtenigkhfldafaaaDoorR0
namespace Go.Proofs.YtenigkhfldafaaaDoor.A
open Go.RowKit Go.Proofs.YtenigkhfldafaaaDoorW.PrintWords
set_option maxRecDepth 100000
theorem nums_data (xs : List Int) : strOfNums xs = B (xs.map fun n => UInt8.ofNat n.toNat) := rfl
theorem bytes_rd (t : ByteArray) (i : Nat) (h : i < t.size) : rd (bytesOf t) (i : Int) = bt t (i : Int) := by
 have hl : i < t.toList.length := by rw [size_list]; exact h
 rw [bt_list t i hl]
 unfold rd bytesOf
 simp only [Int.toNat_natCast, ← ByteArray.toList_eq]
 simp [List.getD_eq_getElem?_getD, hl]
structure GoodW (M : Nat) (w : S88) : Prop where
 kd : w.f0 = 0 ∨ w.f0 = 1 ∨ w.f0 = 2
 num : w.f0 = 1 → -1000000000000000000 < w.f2 ∧ w.f2 < 1000000000000000000
 size : w.f1.size ≤ M
end Go.Proofs.YtenigkhfldafaaaDoor.A
