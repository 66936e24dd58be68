/- Lists of bytes: lines. -/
import Derived.Test.YtenigkhfldafaaaDoorX
namespace Go.Proofs.YtenigkhfldafaaaDoor.A
open Go.RowKit Go.Proofs.YtenigkhfldafaaaDoorW.PrintWords
theorem size_list (s : ByteArray) : s.toList.length = s.size := by rw [ByteArray.toList_eq, Array.length_toList]; rfl
theorem wrap_small {i : Int} (h0 : -9223372036854775808 ≤ i) (h1 : i ≤ 9223372036854775807) : wrap64 i = i := by unfold wrap64; omega
theorem bt_list (s : ByteArray) (n : Nat) (h : n < s.toList.length) : bt s (n : Int) = ((s.toList[n]).toNat : Int) := by
 have hs : n < s.size := by rw [← size_list]; exact h
 have e : s.toList = s.data.toList := ByteArray.toList_eq s
 unfold bt
 rw [dif_pos (by simpa using hs)]
 simp only [e, Int.toNat_natCast]
 rfl
theorem list_inj {a b : ByteArray} (h : a.toList = b.toList) : a = b := by
 have h1 : a.data.toList = b.data.toList := by rw [← ByteArray.toList_eq, ← ByteArray.toList_eq]; exact h
 obtain ⟨⟨x⟩⟩ := a
 obtain ⟨⟨y⟩⟩ := b
 simp only at h1
 rw [h1]
def B (l : List UInt8) : ByteArray := ⟨l.toArray⟩
theorem B_list (l : List UInt8) : (B l).toList = l := ByteArray.toList_mk l
theorem B_size (l : List UInt8) : (B l).size = l.length := by rw [← size_list, B_list]
end Go.Proofs.YtenigkhfldafaaaDoor.A
