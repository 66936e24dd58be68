/- Contracts of three functions that the print does not take (path.Name, strings.Split, strings.Join), in the print's own form. -/
import Derived.Test.YtodamaaiglipaaaDoorProg
import Derived.Below
import Derived.Tactics
import Derived.WalkKit
import Derived.KernelRfl
import Derived.Laws.RangeAny
import Derived.Deep.QuietTactic
import Derived.BigQuiet
import Derived.Test.YtodamaaiglipaaaDoorWWords
import Derived.Outline

import Derived.LoopTactic
namespace Go.Proofs.YtodamaaiglipaaaDoor.A
open Go.RowKit Go.Proofs.YtodamaaiglipaaaDoorW.PrintWords

/-- May a byte stand in a name? -/
def nameByte (c : UInt8) : Bool := 33 ≤ c.toNat && c.toNat ≤ 126 && c.toNat != 47
/-- path.Name's plain answer. -/
def path_Name.f (a0 : ByteArray) : Option Int :=
  if (a0.size : Int) > 19 then some 4 else if a0.toList = [] ∨ a0.toList = [46] ∨ a0.toList = [46, 46] then some 40 else if a0.toList.all nameByte then some 0 else some 40

/-- All bytes from a place on may stand in a name. -/
def okFrom (s : ByteArray) (pos : Nat) : Bool := (s.toList.drop pos).all nameByte

theorem nameByte_no (c : UInt8) (h : ((c.toNat : Int) < 33 ∨ 126 < (c.toNat : Int)) ∨ ((c.toNat : Int) == 47) = true) : nameByte c = false := by
  unfold nameByte
  simp at h
  simp
  omega
theorem nameByte_yes (c : UInt8) (h : (33 ≤ (c.toNat : Int) ∧ (c.toNat : Int) ≤ 126) ∧ ((c.toNat : Int) == 47) = false) : nameByte c = true := by
  unfold nameByte
  simp at h
  simp
  omega
theorem okFrom_step (s : ByteArray) (pos : Nat) (h : pos < s.size) : okFrom s pos = (nameByte (s[pos]'h) && okFrom s (pos + 1)) := by
  have hl : pos < s.toList.length := by rw [ByteArray.toList_eq]; simpa using h
  unfold okFrom
  rw [List.drop_eq_getElem_cons hl, List.all_cons]
  congr 2
  have : s.toList = s.data.toList := ByteArray.toList_eq s
  simp only [this]
  rfl
theorem okFrom_end (s : ByteArray) (pos : Nat) (h : ¬ pos < s.size) : okFrom s pos = true := by
  unfold okFrom
  rw [List.drop_eq_nil_of_le (by rw [ByteArray.toList_eq]; simpa using h)]
  rfl
set_option maxHeartbeats 1000000 in
theorem path_Name.calls (a0 : ByteArray) (r : Int) (w : World) (h : path_Name.f a0 = some r) :
    Calls Tryd.prog 10 #[.string a0] w fun e w' => e = .returned (.int .i64 r) ∧ Below w.heap.size w w' := by
  by_cases h1 : (a0.size : Int) > 19
  · have hr : r = 4 := by simp [path_Name.f, h1] at h; exact h.symm
    subst hr
    clear h
    go_enter Tryd.func10, Tryd.ntmps10
    go_wp2
    go_ret
    exact ⟨rfl, Below.refl _ _⟩
  · by_cases h2 : a0.toList = [] ∨ a0.toList = [46] ∨ a0.toList = [46, 46]
    · have hr : r = 40 := by simp only [path_Name.f, if_neg h1, if_pos h2, Option.some.injEq] at h; exact h.symm
      subst hr
      clear h
      rcases h2 with h2 | h2 | h2
      · go_enter Tryd.func10, Tryd.ntmps10
        go_wp2
        go_ret
        exact ⟨rfl, Below.refl _ _⟩
      · go_enter Tryd.func10, Tryd.ntmps10
        go_wp2
        go_ret
        exact ⟨rfl, Below.refl _ _⟩
      · go_enter Tryd.func10, Tryd.ntmps10
        go_wp2
        go_ret
        exact ⟨rfl, Below.refl _ _⟩
    · have ha : (a0.toList == []) = false := by simp; exact fun e => h2 (.inl e)
      have hb : (a0.toList == [46]) = false := by simp; exact fun e => h2 (.inr (.inl e))
      have hc : (a0.toList == [46, 46]) = false := by simp; exact fun e => h2 (.inr (.inr e))
      have hr : r = if okFrom a0 0 then 0 else 40 := by simp only [path_Name.f, if_neg h1, if_neg h2] at h; simp only [okFrom, List.drop_zero]; split at h <;> rename_i hz <;> simp [hz] <;> simpa using h.symm
      clear h
      go_enter Tryd.func10, Tryd.ntmps10
      go_wp2
      have HR := Aside0.mk hr
      clear hr ha hb hc h2
      go_loopw [4] (fun _ w' => ∃ pos : Nat, w' = w.iter a0 pos ∧ okFrom a0 pos = okFrom a0 0) (fun _ w' => a0.size - w'.iterPos w.heap.size)
      case atStart => exact ⟨0, rfl, rfl⟩
      case round =>
        obtain ⟨pos, rfl, hc⟩ := hrel
        have HC := Aside0.mk hc
        clear hc
        by_cases hp : pos < a0.size
        · by_cases ha : (a0[pos]'hp).toNat < 128
          · have hnx : ∀ ty, (Instr.next (.pointer (some ⟨w.heap.size, 0, none⟩)) true ty).run Tryd.prog (w.iter a0 pos) = _ := fun ty => run_next_ascii w a0 pos ty hp ha
            have hst := Aside0.mk (okFrom_step a0 pos hp)
            go_wp2
            · go_ret
              rename_i g1 g2 g3
              exact ⟨by rw [HR.out, ← HC.out, hst.out, nameByte_no _ g3]; rfl, (Below.refl _ _).alloc (Nat.le_refl _) _⟩
            · go_roundw
              case rel =>
                rename_i g1 g2 g3
                refine ⟨pos + 1, rfl, ?_⟩
                rw [← HC.out, hst.out, nameByte_yes _ g3, Bool.true_and]
              case measure => simp; omega
            · go_ret
              rename_i g1 g2
              exact ⟨by rw [HR.out, ← HC.out, hst.out, nameByte_no _ (.inl (.inr g2))]; rfl, (Below.refl _ _).alloc (Nat.le_refl _) _⟩
            · go_ret
              rename_i g1
              exact ⟨by rw [HR.out, ← HC.out, hst.out, nameByte_no _ (.inl (.inl g1))]; rfl, (Below.refl _ _).alloc (Nat.le_refl _) _⟩
          · obtain ⟨hd1, hd2⟩ := decode_high a0 pos hp (by omega)
            have hd3 := decode_le a0 pos
            have hst := Aside0.mk (okFrom_step a0 pos hp)
            have hnx : ∀ ty, (Instr.next (.pointer (some ⟨w.heap.size, 0, none⟩)) true ty).run Tryd.prog (w.iter a0 pos) = _ := fun ty => run_next_any w a0 pos ty hp
            go_wp2
            go_ret
            exact ⟨by rw [HR.out, ← HC.out, hst.out, nameByte_no _ (.inl (.inr (by omega)))]; rfl, (Below.refl _ _).alloc (Nat.le_refl _) _⟩
        · have hnx : ∀ ty, (Instr.next (.pointer (some ⟨w.heap.size, 0, none⟩)) true ty).run Tryd.prog (w.iter a0 pos) = _ := fun ty => run_next_end w a0 pos ty hp
          go_wp2
          go_ret
          exact ⟨by rw [HR.out, ← HC.out, okFrom_end a0 pos hp]; rfl, (Below.refl _ _).alloc (Nat.le_refl _) _⟩
end Go.Proofs.YtodamaaiglipaaaDoor.A
