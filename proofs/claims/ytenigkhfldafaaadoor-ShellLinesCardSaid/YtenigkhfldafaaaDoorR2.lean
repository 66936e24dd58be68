/- Reading a script: what its steps are, whatever it says. -/
import Derived.Test.YtenigkhfldafaaaDoorR1
namespace Go.Proofs.YtenigkhfldafaaaDoor.A
open Go.RowKit Go.Proofs.YtenigkhfldafaaaDoorW.PrintWords
set_option maxRecDepth 100000
theorem some_ite {α : Type} {p : Prop} [Decidable p] {a : α} {o : Option α} (h : o.isSome = true) : (if p then some a else o).isSome = true := by
 split
 ·rfl
 ·exact h
theorem dev_tot (i : Int) : (shell_device.f i).isSome = true := by
 unfold shell_device.f
 repeat (refine some_ite ?_)
 rfl
theorem cmd_tot (i : Int) : ∃ b, shell_command.f i = some b := by
 obtain ⟨b, hb⟩ := Option.isSome_iff_exists.1 (dev_tot i)
 apply Option.isSome_iff_exists.1
 unfold shell_command.f
 rw [hb]
 repeat (refine some_ite ?_)
 rfl
def letters : List UInt8 := [112, 113, 116, 107, 102, 110, 109]
theorem cmd_all : ∀ n : Fin 25, (match shell_command.f ((n.val : Int) + 1) with | some b => b.2.toList.all (fun c => letters.contains c) && decide (b.2.toList.Nodup) && decide (b.2.size ≤ 3) && decide (b.1.size ≤ 20) && !(b.1.toList == []) | none => false) = true := by decide +kernel
theorem cmd_ok {i : Int} (h1 : 1 ≤ i) (h2 : i ≤ 25) {b : ByteArray × ByteArray} (h : shell_command.f i = some b) :
  (∀ c ∈ b.2.toList, c ∈ letters) ∧ b.2.toList.Nodup ∧ b.2.size ≤ 3 ∧ b.1.size ≤ 20 ∧ b.1.toList ≠ [] := by
 obtain ⟨n, hn⟩ : ∃ n : Nat, i = (n : Int) + 1 := ⟨(i - 1).toNat, by omega⟩
 have := cmd_all ⟨n, by omega⟩
 simp only [← hn, h, Bool.and_eq_true, List.all_eq_true, decide_eq_true_eq, List.contains_iff_mem, Bool.not_eq_true', beq_eq_false_iff_ne] at this
 exact ⟨this.1.1.1.1, this.1.1.1.2, this.1.1.2, this.1.2, this.2⟩
inductive Fld where
 | s (b : ByteArray)
 | i (n : Int)
 | k (l : List Bool)
def put (r a : S31) (c : UInt8) : S31 := if c = 112 then { a with f4 := r.f4 } else if c = 113 then { a with f5 := r.f5 } else if c = 116 then { a with f6 := r.f6 } else if c = 107 then { a with f7 := r.f7 } else if c = 102 then { a with f1 := r.f1 } else if c = 110 then { a with f2 := r.f2 } else { a with f3 := r.f3 }
def putL (r : S31) : List UInt8 → S31 → S31
 | [], a => a
 | c :: cs, a => putL r cs (put r a c)
theorem letters_cases {c : UInt8} (h : c ∈ letters) : c = 112 ∨ c = 113 ∨ c = 116 ∨ c = 107 ∨ c = 102 ∨ c = 110 ∨ c = 109 := by simpa [letters] using h
structure Bd (M : Nat) (a : S31) : Prop where
 i1 : -1000000000000000000 < a.f1 ∧ a.f1 < 1000000000000000000
 i2 : -1000000000000000000 < a.f2 ∧ a.f2 < 1000000000000000000
 i3 : -1000000000000000000 < a.f3 ∧ a.f3 < 1000000000000000000
 s4 : a.f4.size ≤ M
 s5 : a.f5.size ≤ M
 s6 : a.f6.size ≤ M
 s7 : a.f7.length ≤ M
structure GoodA (M : Nat) (a : S31) : Prop where
 lo : 1 ≤ a.f0
 hi : a.f0 ≤ 25
 clean : ∀ b, shell_command.f a.f0 = some b → putL a b.2.toList { z31 with f0 := a.f0 } = a
 bd : Bd M a
end Go.Proofs.YtenigkhfldafaaaDoor.A
