/- Steps that are cut. -/
import Derived.Test.YtenigkhfldafaaaDoorR5
import Derived.Test.YtenigkhfldafaaaDoorQA
import Derived.Test.YtenigkhfldafaaaDoorA19
namespace Go.Proofs.YtenigkhfldafaaaDoor.A
open Go.RowKit Go.Proofs.YtenigkhfldafaaaDoorW.PrintWords
set_option maxRecDepth 100000
def tup (a : S31) : Int × Int × Int × Int × ByteArray × ByteArray × ByteArray × List Bool := (a.f0, a.f1, a.f2, a.f3, a.f4, a.f5, a.f6, a.f7)
def cutB (b : ByteArray) : ByteArray := if (b.size : Int) > 3000 then b.extract 0 3000 else b
def cutL (l : List Bool) : List Bool := if (l.length : Int) > 3000 then l.take 3000 else l
def shortA (a : S31) : S31 := ⟨a.f0, a.f1, a.f2, a.f3, cutB a.f4, cutB a.f5, cutB a.f6, cutL a.f7⟩
theorem cutB_size (b : ByteArray) : (cutB b).size ≤ 3000 := by
 unfold cutB
 split
 ·rename_i h
  rw [← size_list, list_ext, List.drop_zero, List.length_take]
  omega
 ·omega
theorem cutL_size (l : List Bool) : (cutL l).length ≤ 3000 := by
 unfold cutL
 split
 ·rw [List.length_take]
  omega
 ·omega
theorem short_sz (a : S31) : Sz (shortA a) := ⟨Nat.le_trans (cutB_size _) (by decide), Nat.le_trans (cutB_size _) (by decide), Nat.le_trans (cutB_size _) (by decide), Nat.le_trans (cutL_size _) (by decide)⟩
theorem short_j2 (a : S31) : Ev (fun k => grapnellaw21_short.j2 k a.f0 a.f1 a.f2 a.f3 a.f4 a.f5 a.f6 a.f7) (tup { a with f7 := cutL a.f7 }) := by
 by_cases h : (a.f7.length : Int) > 3000
 ·rw [show cutL a.f7 = a.f7.take 3000 from if_pos h]
  exact Ev.step (fun k => grapnellaw21_short.j2.eq_2 ..) (Ev.ifp h (Ev.ifp (by omega) (Ev.now _)))
 ·rw [show cutL a.f7 = a.f7 from if_neg h]
  exact Ev.step (fun k => grapnellaw21_short.j2.eq_2 ..) (Ev.ifn h (Ev.now _))
theorem short_j1 (a : S31) : Ev (fun k => grapnellaw21_short.j1 k a.f0 a.f1 a.f2 a.f3 a.f4 a.f5 a.f6 a.f7) (tup { a with f6 := cutB a.f6, f7 := cutL a.f7 }) := by
 by_cases h : (a.f6.size : Int) > 3000
 ·rw [show cutB a.f6 = a.f6.extract 0 3000 from if_pos h]
  exact Ev.step (fun k => grapnellaw21_short.j1.eq_2 ..) (Ev.ifp h (Ev.ifp (by decide) (Ev.ifp (by omega) (short_j2 { a with f6 := a.f6.extract 0 3000 }))))
 ·rw [show cutB a.f6 = a.f6 from if_neg h]
  exact Ev.step (fun k => grapnellaw21_short.j1.eq_2 ..) (Ev.ifn h (short_j2 a))
theorem short_j0 (a : S31) : Ev (fun k => grapnellaw21_short.j0 k a.f0 a.f1 a.f2 a.f3 a.f4 a.f5 a.f6 a.f7) (tup { a with f5 := cutB a.f5, f6 := cutB a.f6, f7 := cutL a.f7 }) := by
 by_cases h : (a.f5.size : Int) > 3000
 ·rw [show cutB a.f5 = a.f5.extract 0 3000 from if_pos h]
  exact Ev.step (fun k => grapnellaw21_short.j0.eq_2 ..) (Ev.ifp h (Ev.ifp (by decide) (Ev.ifp (by omega) (short_j1 { a with f5 := a.f5.extract 0 3000 }))))
 ·rw [show cutB a.f5 = a.f5 from if_neg h]
  exact Ev.step (fun k => grapnellaw21_short.j0.eq_2 ..) (Ev.ifn h (short_j1 a))
theorem short_ev (a : S31) : Ev (fun k => grapnellaw21_short.f k a.f0 a.f1 a.f2 a.f3 a.f4 a.f5 a.f6 a.f7) (tup (shortA a)) := by
 by_cases h : (a.f4.size : Int) > 3000
 ·rw [show shortA a = { a with f4 := a.f4.extract 0 3000, f5 := cutB a.f5, f6 := cutB a.f6, f7 := cutL a.f7 } by unfold shortA; rw [show cutB a.f4 = a.f4.extract 0 3000 from if_pos h]]
  exact Ev.ifp h (Ev.ifp (by decide) (Ev.ifp (by omega) (short_j0 { a with f4 := a.f4.extract 0 3000 })))
 ·rw [show shortA a = { a with f5 := cutB a.f5, f6 := cutB a.f6, f7 := cutL a.f7 } by unfold shortA; rw [show cutB a.f4 = a.f4 from if_neg h]]
  exact Ev.ifn h (short_j0 a)
end Go.Proofs.YtenigkhfldafaaaDoor.A
