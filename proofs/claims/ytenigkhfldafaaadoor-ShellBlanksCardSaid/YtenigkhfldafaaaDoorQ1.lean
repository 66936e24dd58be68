/- Lists of bytes: lines. -/
import Derived.Test.YtenigkhfldafaaaDoorX
namespace Go.Proofs.YtenigkhfldafaaaDoor.A
open Go.RowKit Go.Proofs.YtenigkhfldafaaaDoorW.PrintWords
theorem size_list (s : ByteArray) : s.toList.length = s.size := by rw [ByteArray.toList_eq, Array.length_toList]; rfl
theorem wrap_small {i : Int} (h0 : -9223372036854775808 ≤ i) (h1 : i ≤ 9223372036854775807) : wrap64 i = i := by unfold wrap64; omega
theorem bt_list (s : ByteArray) (n : Nat) (h : n < s.toList.length) : bt s (n : Int) = ((s.toList[n]).toNat : Int) := by
 have hs : n < s.size := by rw [← size_list]; exact h
 have e : s.toList = s.data.toList := ByteArray.toList_eq s
 unfold bt
 rw [dif_pos (by simpa using hs)]
 simp only [e, Int.toNat_natCast]
 rfl
theorem list_inj {a b : ByteArray} (h : a.toList = b.toList) : a = b := by
 have h1 : a.data.toList = b.data.toList := by rw [← ByteArray.toList_eq, ← ByteArray.toList_eq]; exact h
 obtain ⟨⟨x⟩⟩ := a
 obtain ⟨⟨y⟩⟩ := b
 simp only at h1
 rw [h1]
theorem list_ext (s : ByteArray) (a b : Nat) : (s.extract a b).toList = (s.toList.take b).drop a := by
 rw [ByteArray.toList_eq, ByteArray.toList_eq, Lib.extract_data, List.drop_take]
def B (l : List UInt8) : ByteArray := ⟨l.toArray⟩
theorem B_list (l : List UInt8) : (B l).toList = l := ByteArray.toList_mk l
theorem list_B (s : ByteArray) : B s.toList = s := list_inj (B_list _)
theorem B_size (l : List UInt8) : (B l).size = l.length := by rw [← size_list, B_list]
def pf : List UInt8 → List UInt8 → List (List UInt8)
 | cur, [] => [cur]
 | cur, c :: r => if c = 10 then cur :: pf [] r else pf (cur ++ [c]) r
theorem pf_none : ∀ (l cur : List UInt8), (10 : UInt8) ∉ l → pf cur l = [cur ++ l]
 | [], cur, _ => by simp [pf]
 | c :: r, cur, h => by
  simp only [List.mem_cons, not_or] at h
  rw [pf, if_neg (fun e => h.1 e.symm), pf_none r _ h.2]
  simp
theorem pf_hit : ∀ (a cur b : List UInt8), (10 : UInt8) ∉ a → pf cur (a ++ 10 :: b) = (cur ++ a) :: pf [] b
 | [], cur, b, _ => by simp [pf]
 | c :: r, cur, b, h => by
  simp only [List.mem_cons, not_or] at h
  rw [List.cons_append, pf, if_neg (fun e => h.1 e.symm), pf_hit r _ b h.2]
  simp
theorem splitK_pf : ∀ (k : Nat) (l : List UInt8), l.count 10 ≤ k → Lib.splitK [10] 0 k l = pf [] l
 | 0, l, h => by
  have : (10 : UInt8) ∉ l := List.count_eq_zero.1 (by omega)
  rw [pf_none l [] this]
  rfl
 | k + 1, l, h => by
  unfold Lib.splitK
  rw [Lib.index_one]
  rcases Int.lt_or_le (Lib.indexByte l 10) 0 with hn | hp
  ·have e : Lib.indexByte l 10 = -1 := by have := Lib.indexByte_ge l 10; omega
   have hno := Lib.indexByte_none e
   have : (10 : UInt8) ∉ l := fun hm => by
    obtain ⟨i, hi, he⟩ := List.getElem_of_mem hm
    exact hno i (by rw [List.getElem?_eq_getElem hi, he])
   rw [if_pos (by rw [e]; rfl), pf_none l [] this]
   rfl
  ·obtain ⟨o, ho⟩ := Int.eq_ofNat_of_zero_le hp
   obtain ⟨h1, h2⟩ := Lib.indexByte_some ho
   obtain ⟨hlt, he⟩ := List.getElem?_eq_some_iff.1 h1
   rw [if_neg (by rw [ho]; simp), ho]
   simp only [Nat.add_zero, List.length_singleton, Int.toNat_natCast]
   have hl : l = l.take o ++ 10 :: l.drop (o + 1) := by
    rw [← he, List.getElem_cons_drop hlt, List.take_append_drop]
   have hna : (10 : UInt8) ∉ l.take o := fun hm => by
    obtain ⟨i, hi, hx⟩ := List.getElem_of_mem hm
    have hio : i < o := by have := List.length_take_le o l; omega
    exact h2 i hio (by rw [List.getElem?_eq_getElem (by omega), ← hx, List.getElem_take])
   have hc : (l.drop (o + 1)).count 10 ≤ k := by
    have e2 : l.count 10 = (l.take o ++ 10 :: l.drop (o + 1)).count 10 := by rw [← hl]
    rw [List.count_append, List.count_cons_self] at e2
    omega
   rw [splitK_pf k _ hc]
   conv => rhs; rw [hl, pf_hit _ _ _ hna]
   simp
theorem split_eq (s : ByteArray) (hs : s.size < 4294967281) : strings_Split.f s ⟨#[10]⟩ = some ((pf [] s.toList).map B) := by
 have hl : (Lib.splitB ⟨#[10]⟩ 0 (Lib.countB s ⟨#[10]⟩) s).map (·.data.toList) = pf [] s.toList := by
  rw [Lib.splitB_data]
  show Lib.splitK [10] 0 (Lib.count s.data.toList [10]) s.data.toList = _
  rw [Lib.count_one, ByteArray.toList_eq]
  exact splitK_pf _ _ (Nat.le_refl _)
 unfold strings_Split.f
 rw [if_pos ⟨rfl, hs⟩, ← hl, List.map_map]
 congr 1
 conv => lhs; rw [← List.map_id (Lib.splitB _ _ _ _)]
 apply List.map_congr_left
 intro x _
 exact (list_B x).symm.trans (by rw [ByteArray.toList_eq]; rfl)
end Go.Proofs.YtenigkhfldafaaaDoor.A
