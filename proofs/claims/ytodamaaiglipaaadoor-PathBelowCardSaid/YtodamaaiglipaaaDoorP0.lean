/- The plain laws of paths and names: what the printed functions answer, told over lists of bytes. -/
import Derived.Test.YtodamaaiglipaaaDoorA
namespace Go.Proofs.YtodamaaiglipaaaDoor.A
open Go.RowKit Go.Proofs.YtodamaaiglipaaaDoorW.PrintWords

theorem size_list (s : ByteArray) : s.toList.length = s.size := by rw [ByteArray.toList_eq, Array.length_toList]; rfl
theorem wrap_small {i : Int} (h0 : -9223372036854775808 ≤ i) (h1 : i ≤ 9223372036854775807) : wrap64 i = i := by unfold wrap64; omega
theorem bt_list (s : ByteArray) (n : Nat) (h : n < s.toList.length) : bt s (n : Int) = ((s.toList[n]).toNat : Int) := by
  have hs : n < s.size := by rw [← size_list]; exact h
  have e : s.toList = s.data.toList := ByteArray.toList_eq s
  unfold bt
  rw [dif_pos (by simpa using hs)]
  simp only [e, Int.toNat_natCast]
  rfl
theorem list_inj {a b : ByteArray} (h : a.toList = b.toList) : a = b := by
  have h1 : a.data.toList = b.data.toList := by rw [← ByteArray.toList_eq, ← ByteArray.toList_eq]; exact h
  obtain ⟨⟨x⟩⟩ := a
  obtain ⟨⟨y⟩⟩ := b
  simp only at h1
  rw [h1]
theorem list_ext (s : ByteArray) (a b : Nat) : (s.extract a b).toList = (s.toList.take b).drop a := by
  rw [ByteArray.toList_eq, ByteArray.toList_eq, Lib.extract_data, List.drop_take]

/-- May a list of bytes be a name? -/
def nameE (l : List UInt8) : Int := if (l.length : Int) > 19 then 4 else if l = [] ∨ l = [46] ∨ l = [46, 46] then 40 else if l.all nameByte then 0 else 40
theorem path_Name_eq (s : ByteArray) : path_Name.f s = some (nameE s.toList) := by
  unfold path_Name.f nameE
  rw [size_list]
  split
  · rfl
  · split
    · rfl
    · split <;> rfl

theorem ref_Name_l0 (s : ByteArray) (hs : s.size ≤ 9223372036854775806) (d : Nat) : ∀ n : Nat, n + d = s.toList.length →
    Ev (fun k => grapnelref10_Name.l0 k s n) (if (s.toList.drop n).all nameByte then 0 else 40) := by
  induction d with
  | zero =>
    intro n hn
    have e : s.toList.drop n = [] := List.drop_eq_nil_of_le (by omega)
    rw [e]
    have hl := size_list s
    refine Ev.step (f := fun _ => some 0) (fun k => ?_) (Ev.now _)
    simp only [grapnelref10_Name.l0]
    rw [if_neg (by omega)]
  | succ d ih =>
    intro n hn
    have hl := size_list s
    have hlt : n < s.toList.length := by omega
    have hb := bt_list s n hlt
    rw [List.drop_eq_getElem_cons hlt, List.all_cons]
    by_cases hc : nameByte (s.toList[n]) = true
    · rw [hc, Bool.true_and]
      refine Ev.step (fun k => ?_) (ih (n + 1) (by omega))
      simp only [grapnelref10_Name.l0]
      rw [if_pos (by omega), if_pos (by omega), hb]
      unfold nameByte at hc
      simp at hc
      rw [if_neg (by omega), if_neg (by omega), if_neg (by omega), wrap_small (by omega) (by omega)]
      rfl
    · have hc' : nameByte (s.toList[n]) = false := by simpa using hc
      rw [hc', Bool.false_and]
      refine Ev.step (f := fun _ => some 40) (fun k => ?_) (Ev.now _)
      simp only [grapnelref10_Name.l0]
      rw [if_pos (by omega), if_pos (by omega), hb]
      unfold nameByte at hc'
      simp at hc'
      by_cases h1 : ((s.toList[n]).toNat : Int) < 33
      · rw [if_pos h1]
      · rw [if_neg h1]
        by_cases h2 : ((s.toList[n]).toNat : Int) > 126
        · rw [if_pos h2]
        · rw [if_neg h2, if_pos (by have := hc' (by omega) (by omega); rw [this]; rfl)]

theorem ref_Name_eq (s : ByteArray) : Ev (fun k => grapnelref10_Name.f k s) (nameE s.toList) := by
  unfold grapnelref10_Name.f nameE
  have hl := size_list s
  by_cases h : (s.toList.length : Int) > 19
  · rw [if_pos h]
    exact Ev.congr (f := fun _ => some 4) (fun k => by rw [if_pos (by omega)]) (Ev.now _)
  · rw [if_neg h]
    by_cases h0 : s.toList = [] ∨ s.toList = [46] ∨ s.toList = [46, 46]
    · rw [if_pos h0]
      have hj : Ev (fun k => grapnelref10_Name.j0 k s true) 40 := Ev.step (f := fun _ => some 40) (fun k => by simp [grapnelref10_Name.j0]) (Ev.now _)
      refine Ev.congr (fun k => ?_) hj
      rw [if_neg (by omega)]
      rcases h0 with e | e | e
      · rw [if_pos e]
      · rw [if_neg (by simp [e]), if_pos e]
      · rw [if_neg (by simp [e]), if_neg (by simp [e])]
        simp [e]
    · rw [if_neg h0]
      have hj : Ev (fun k => grapnelref10_Name.j0 k s false) (if s.toList.all nameByte then 0 else 40) := by
        refine Ev.step (fun k => ?_) (ref_Name_l0 s (by omega) s.toList.length 0 (by omega))
        simp only [grapnelref10_Name.j0]
        rfl
      refine Ev.congr (fun k => ?_) hj
      rw [if_neg (by omega), if_neg (fun e => h0 (.inl e)), if_neg (fun e => h0 (.inr (.inl e)))]
      have : (s.toList == [46, 46]) = false := by simp; exact fun e => h0 (.inr (.inr e))
      rw [this]
end Go.Proofs.YtodamaaiglipaaaDoor.A
