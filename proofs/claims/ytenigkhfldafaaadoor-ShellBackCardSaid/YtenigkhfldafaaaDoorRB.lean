/- The law of steps that are printed and read again. -/
import Derived.Test.YtenigkhfldafaaaDoorRD
import Derived.Test.YtenigkhfldafaaaDoorA26
namespace Go.Proofs.YtenigkhfldafaaaDoor.A
open Go.RowKit Go.Proofs.YtenigkhfldafaaaDoorW.PrintWords
set_option maxRecDepth 100000
theorem back_l (x0 : List S31) (hl : x0.length ≤ 60) (hs : ∀ a ∈ x0, Sz a) (hok : ∀ a ∈ x0, (lineR a).2 = 0) : ∀ (d i : Nat), i + d = x0.length → Ev (fun k => grapnellaw21_ShellBack.l0 k x0 (x0.map cleanA) (i : Int)) true
 | 0, i, hi => Ev.step (fun k => grapnellaw21_ShellBack.l0.eq_2 ..) (Ev.ifn (by omega) (Ev.bind awake_ev (Ev.now _)))
 | d + 1, i, hi => by
  have e1 := w1 (n := i) (by omega)
  obtain ⟨h1, h2, h3⟩ := same_clean x0 hs hok i (by omega)
  exact Ev.step (fun k => grapnellaw21_ShellBack.l0.eq_2 ..) (Ev.ifp (by omega) (Ev.ifp (by omega) (Ev.ifp (by rw [List.length_map]; omega) (Ev.bind h1 (Ev.bind (by rw [h2]; exact same_one _ h3) (Ev.ifp rfl (by simp only [e1]; exact back_l x0 hl hs hok d (i + 1) (by omega))))))))
theorem back_law (l : List S31) : ∃ k, grapnellaw21_ShellBack.f k l = some true := by
 apply Ev.rounds
 have hl := few_len l
 have hs := few_sz l
 refine Ev.bind (few_ev l) (Ev.bind (print_ev (fewL l) (by omega) hs) ?_)
 by_cases h0 : (printR (fewL l) []).2 = 0
 ·have hback := print_back (fewL l) (by omega) hs h0
  have hok := (printR_ok (fewL l) [] h0).2
  refine Ev.ifp h0 (Ev.bind hback (Ev.ifp rfl (Ev.ifp rfl ?_)))
  exact Ev.step (fun k => grapnellaw21_ShellBack.j0.eq_2 ..) (Ev.ifn (by rw [List.length_map]; simp) (back_l (fewL l) hl hs hok (fewL l).length 0 (Nat.zero_add _)))
 ·obtain ⟨q1, _⟩ := printR_no (fewL l) [] h0
  exact Ev.ifn h0 (Ev.ifp (by rw [q1]; exact B_list []) (Ev.bind awake_ev (Ev.now _)))
end Go.Proofs.YtenigkhfldafaaaDoor.A
