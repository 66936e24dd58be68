/- The plain law of what each command asks for. -/
import Derived.Test.YtenigkhfldafaaaDoorA11
namespace Go.Proofs.YtenigkhfldafaaaDoor.A
open Go.RowKit Go.Proofs.YtenigkhfldafaaaDoorW.PrintWords
set_option maxRecDepth 100000
theorem awake_ok : grapnellaw21_awake.f 60 = some true := by decide +kernel
theorem needs_j0 (a b : Int) : grapnellaw21_ShellNeeds.j0 61 a b true = some true := by
  show (grapnellaw21_awake.f 60).bind _ = _
  rw [awake_ok]
  rfl
theorem needs_all : (List.range 25).all (fun i => (List.range 7).all fun j => grapnellaw21_ShellNeeds.f 61 ((i : Int) + 1) (j : Int) == some true) = true := by decide +kernel
theorem needs_law (a0 a1 : Int) (_w0 : (Lit.int .i64 a0).wf = true) (_w1 : (Lit.int .i64 a1).wf = true) : ∃ k, grapnellaw21_ShellNeeds.f k a0 a1 = some true := by
  refine ⟨61, ?_⟩
  by_cases h1 : a0 < 1
  · rw [grapnellaw21_ShellNeeds.f, if_pos h1]; exact needs_j0 _ _
  by_cases h2 : a0 > 25
  · rw [grapnellaw21_ShellNeeds.f, if_neg h1, if_pos h2]; exact needs_j0 _ _
  by_cases h3 : a1 < 0
  · rw [grapnellaw21_ShellNeeds.f, if_neg h1, if_neg h2, if_pos h3]; exact needs_j0 _ _
  by_cases h4 : a1 > 6
  · rw [grapnellaw21_ShellNeeds.f, if_neg h1, if_neg h2, if_neg h3, decide_eq_true h4]; exact needs_j0 _ _
  obtain ⟨i, hi⟩ : ∃ i : Nat, a0 = (i : Int) + 1 := ⟨(a0 - 1).toNat, by omega⟩
  obtain ⟨j, hj⟩ : ∃ j : Nat, a1 = (j : Int) := ⟨a1.toNat, by omega⟩
  have h := List.all_eq_true.1 (List.all_eq_true.1 needs_all i (List.mem_range.2 (by omega))) j (List.mem_range.2 (by omega))
  rw [hi, hj]
  exact eq_of_beq h
end Go.Proofs.YtenigkhfldafaaaDoor.A
