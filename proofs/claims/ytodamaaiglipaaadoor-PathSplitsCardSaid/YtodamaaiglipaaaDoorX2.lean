/- Contracts of strings.Split (a separator of one byte) and strings.Join, in the print's own form. -/
import Derived.Test.YtodamaaiglipaaaDoorX
import Derived.Test.YtodamaaiglipaaaDoorShelf
namespace Go.Proofs.YtodamaaiglipaaaDoor.A
open Go.RowKit Go.Proofs.YtodamaaiglipaaaDoorW.PrintWords

/-- strings.Split at a separator of one byte. -/
def strings_Split.f (a0 a1 : ByteArray) : Option (List ByteArray) :=
  if a1.size = 1 ∧ a0.size < 4294967281 then some (Lib.splitB a1 0 (Lib.countB a0 a1) a0) else none

theorem split_owned (w : World) (xs : List ByteArray) (h : xs.length ≤ 9223372036854775807) :
    Kd.R Kd.string 9 (w.alloc (.cells (xs.map Value.string).toArray 9)) w.heap.size (fun _ => True) (.slice (some ⟨w.heap.size, 0, none⟩) xs.length xs.length) xs := by
  refine Kd.R_of_own ⟨by simp [encs], .inr ⟨w.heap.size, xs.length, _, rfl, Nat.le_refl _, heap_alloc_new w _, Nat.le_refl _, by simpa [maxLen] using h, by simp, ?_⟩⟩ (fun _ _ => trivial)
  simp only [encs, Nat.mul_one]
  rw [List.take_of_length_le (by simp)]

set_option maxHeartbeats 1000000 in
theorem strings_Split.calls (a0 a1 : ByteArray) (r : List ByteArray) (w : World) (h : strings_Split.f a0 a1 = some r) :
    Calls Tryd.prog 20 #[.string a0, .string a1] w fun e w' => ∃ v0_ : Value, e = .returned v0_ ∧ Kd.R Kd.string 9 w' w.heap.size (fun _ => True) v0_ r ∧ Below w.heap.size w w' := by
  unfold strings_Split.f at h
  split at h
  case isFalse => cases h
  case isTrue hc =>
  obtain rfl := Option.some.inj h
  obtain ⟨h1, hs⟩ := hc
  clear h
  obtain ⟨c, rfl⟩ := Lib.one_byte a1 h1
  have hI : ∀ (x : ByteArray) (ca : Array Value), x.size ≤ a0.size → Calls Tryd.prog 28 #[.string x, .string ⟨#[c]⟩] (w.alloc (.cells ca 9)) fun e w' => e = .returned (.int .i64 (Lib.indexB x ⟨#[c]⟩)) ∧ w' = w.alloc (.cells ca 9) := by
    intro x ca hx
    refine (Tryd.strings_Index_one x c _).mono fun e w' ⟨he, hw⟩ => ⟨?_, hw⟩
    rw [he]
    show _ = Ending.returned (Value.int .i64 (Lib.index x.data.toList [c]))
    rw [Lib.index_one]
  have hC : Calls Tryd.prog 27 #[.string a0, .string ⟨#[c]⟩] w fun e w' => e = .returned (.int .i64 (Lib.countB a0 ⟨#[c]⟩)) ∧ w' = w := by
    refine (Tryd.strings_Count_one a0 c _).mono fun e w' ⟨he, hw⟩ => ⟨?_, hw⟩
    rw [he]
    show _ = Ending.returned (Value.int .i64 ((Lib.count a0.data.toList [c] : Nat) : Int))
    rw [Lib.count_one]
    rfl
  have hle := Lib.countB_le ⟨#[c]⟩ (Nat.le_of_eq h1.symm) a0.size a0 (Nat.le_refl _)
  have hlen := Lib.splitB_all ⟨#[c]⟩ (Nat.le_of_eq h1.symm) 0 _ a0 rfl
  have c0 := Any.strings_genSplit_core Tryd.lays221 (by kernel_rfl) a0 ⟨#[c]⟩ 0 (-1) (Lib.countB a0 ⟨#[c]⟩ + 1) w hs (Nat.le_of_eq h1.symm) (Nat.zero_le _) hI hC (by decide) (by decide) (by rw [if_pos (by decide)]; omega)
  rw [Nat.add_sub_cancel] at c0
  have e2 : Lib.cellsOf (Lib.splitB ⟨#[c]⟩ 0 (Lib.countB a0 ⟨#[c]⟩) a0) (Lib.countB a0 ⟨#[c]⟩ + 1) = ((Lib.splitB ⟨#[c]⟩ 0 (Lib.countB a0 ⟨#[c]⟩) a0).map Value.string).toArray := by rw [← hlen]; exact Lib.cellsOf_full _
  rw [e2, ← hlen] at c0
  have HL := Aside0.mk hlen
  have HS := Aside0.mk hs
  have HE := Aside0.mk hle
  clear e2 hlen hs hle hI hC h1
  go_enter Tryd.func20, Tryd.ntmps20
  go_wp2_with (go_at_call 22; refine c0.mono ?_; rintro e w' ⟨rfl, hw⟩; rw [hw])
  go_ret
  exact ⟨_, rfl, split_owned w _ (by have := HL.out; have := HS.out; have := HE.out; omega), (Below.refl _ _).alloc (Nat.le_refl _) _⟩

/-- strings.Join, up to a whole length of 2^47. -/
def strings_Join.f (l0 : List ByteArray) (a1 : ByteArray) : Option ByteArray :=
  if l0.length ≤ 140737488355328 ∧ (Lib.join (l0.map (·.data.toList)) a1.data.toList).length ≤ 140737488355328 then some ⟨(Lib.join (l0.map (·.data.toList)) a1.data.toList).toArray⟩ else none

theorem strings_Join.calls (A0 : Option Addr) (c0 : Nat) (l0 : List ByteArray) (a1 : ByteArray) (r : ByteArray) (w : World) (hr0 : Kd.C Kd.string w A0 l0.length l0) (hc0 : l0.length ≤ c0) (h : strings_Join.f l0 a1 = some r) :
    Calls Tryd.prog 21 #[.slice A0 l0.length c0, .string a1] w fun e w' => e = .returned (.string r) ∧ Below w.heap.size w w' := by
  unfold strings_Join.f at h
  split at h
  case isFalse => cases h
  case isTrue hc =>
  obtain rfl := Option.some.inj h
  clear h
  rcases Nat.eq_zero_or_pos l0.length with hz | hp
  · obtain rfl := List.eq_nil_of_length_eq_zero hz
    exact (Tryd.strings_Join_none A0 c0 a1 w).mono fun e w' ⟨he, hw⟩ => ⟨he, hw ▸ Below.refl _ _⟩
  · obtain ⟨ad, rfl, hcell⟩ := hr0.2.2 hp
    have cell : ∀ (j : Nat) x, l0[j]? = some x → w.cell? (ad.add j) = some (.string x) := by
      intro j x hx
      obtain ⟨c, hl, hk, hcl⟩ := hcell j x hx
      have hk' : c = [Value.string x] := hk
      subst hk'
      have := hcl 0 _ rfl
      simpa [Kd.string, Kd.scalar] using this
    have h00 := cell 0 l0[0] (List.getElem?_eq_getElem hp)
    have had : ad.add 0 = ad := by simp [Addr.add]
    rw [had] at h00
    obtain ⟨b, o, sp⟩ := ad
    have hsp : sp = none := by
      unfold World.cell? at h00
      split at h00
      · cases sp with
        | none => rfl
        | some _ => simp at h00
      · cases h00
    subst hsp
    refine Tryd.strings_Join b o c0 l0 a1 w (fun j x hx => ?_) (World.block_lt_of_cell? w _ h00) hc.1 hc0 hc.2
    have := cell j x hx
    unfold Addr.add at this
    split at this
    · rename_i hj; subst hj; exact this
    · exact this
end Go.Proofs.YtodamaaiglipaaaDoor.A
