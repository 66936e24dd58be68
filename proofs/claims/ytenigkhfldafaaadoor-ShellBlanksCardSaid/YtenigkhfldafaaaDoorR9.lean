/- Few steps. -/
import Derived.Test.YtenigkhfldafaaaDoorR8
import Derived.Test.YtenigkhfldafaaaDoorAF
namespace Go.Proofs.YtenigkhfldafaaaDoor.A
open Go.RowKit Go.Proofs.YtenigkhfldafaaaDoorW.PrintWords
set_option maxRecDepth 100000
def fewL (l : List S31) : List S31 := (l.take 60).map shortA
theorem few_l (l : List S31) : ∀ (d i : Nat), i + d = 60 → Ev (fun k => grapnellaw21_few.l0 k l ((l.take i).map shortA) (i : Int)) (fewL l) := by
 intro d
 induction d with
 | zero =>
  intro i hi
  by_cases h : (i : Int) < (l.length : Int)
  ·rw [show i = 60 by omega] at h ⊢
   exact Ev.step (fun k => grapnellaw21_few.l0.eq_2 ..) (Ev.ifp h (Ev.ifn (by omega) (Ev.now _)))
  ·rw [show i = 60 by omega] at h ⊢
   exact Ev.step (fun k => grapnellaw21_few.l0.eq_2 ..) (Ev.ifn h (Ev.now _))
 | succ d ih =>
  intro i hi
  by_cases h : (i : Int) < (l.length : Int)
  ·have hn : i < l.length := by omega
   have hl : ((l.take i).map shortA).length ≤ 60 := by rw [List.length_map]; exact Nat.le_trans (List.length_take_le _ _) (by omega)
   have := ih (i + 1) (by omega)
   rw [List.take_succ_eq_append_getElem hn, List.map_append] at this
   refine Ev.step (fun k => grapnellaw21_few.l0.eq_2 ..) (Ev.ifp h (Ev.ifp (by omega) (Ev.ifp (by omega) (Ev.bind (by rw [rd31 l i hn]; exact short_ev l[i]) (Ev.ifp (by omega) ?_)))))
   simp only [w1 (n := i) (by omega)]
   exact this
  ·have e : (l.take i).map shortA = fewL l := by
    rw [fewL, List.take_of_length_le (by omega), List.take_of_length_le (by omega)]
   rw [e]
   exact Ev.step (fun k => grapnellaw21_few.l0.eq_2 ..) (Ev.ifn h (Ev.now _))
theorem few_ev (l : List S31) : Ev (fun k => grapnellaw21_few.f k l) (fewL l) := few_l l 60 0 rfl
theorem few_len (l : List S31) : (fewL l).length ≤ 60 := by rw [fewL, List.length_map]; exact List.length_take_le _ _
theorem few_sz (l : List S31) : ∀ a ∈ fewL l, Sz a := fun a ha => by
 obtain ⟨b, _, rfl⟩ := List.mem_map.1 ha
 exact short_sz b
end Go.Proofs.YtenigkhfldafaaaDoor.A
