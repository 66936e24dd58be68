/- The same step. -/
import Derived.Test.YtenigkhfldafaaaDoorR6
import Derived.Test.YtenigkhfldafaaaDoorA13
namespace Go.Proofs.YtenigkhfldafaaaDoor.A
open Go.RowKit Go.Proofs.YtenigkhfldafaaaDoorW.PrintWords
set_option maxRecDepth 100000
theorem same_l (a : S31) (h7 : a.f7.length ≤ 1000000) : ∀ (d i : Nat), i + d = a.f7.length → Ev (fun k => grapnelref21_Same.l0 k (i : Int) a.f0 a.f1 a.f2 a.f3 a.f4 a.f5 a.f6 a.f7 a.f0 a.f1 a.f2 a.f3 a.f4 a.f5 a.f6 a.f7) true
 | 0, i, hi => Ev.step (fun k => grapnelref21_Same.l0.eq_2 _ _ _ _ _ _ _ _ _ _ _ _ _ _ _ _ _ _) (Ev.ifn (by omega) (Ev.now _))
 | d + 1, i, hi => by
  have e1 := w1 (n := i) (by omega)
  exact Ev.step (fun k => grapnelref21_Same.l0.eq_2 _ _ _ _ _ _ _ _ _ _ _ _ _ _ _ _ _ _) (Ev.ifp (by omega) (Ev.ifp (by omega) (Ev.ifp (by omega) (Ev.ifn (by simp) (by simp only [e1]; exact same_l a h7 d (i + 1) (by omega))))))
theorem same_one (a : S31) (h7 : a.f7.length ≤ 1000000) : Ev (fun k => grapnelref21_Same.f k a.f0 a.f1 a.f2 a.f3 a.f4 a.f5 a.f6 a.f7 a.f0 a.f1 a.f2 a.f3 a.f4 a.f5 a.f6 a.f7) true :=
 Ev.ifp rfl (Ev.ifp rfl (Ev.ifp rfl (Ev.ifp rfl (Ev.ifp rfl (Ev.ifp rfl (Ev.ifp rfl (Ev.step (fun k => grapnelref21_Same.j0.eq_2 _ _ _ _ _ _ _ _ _ _ _ _ _ _ _ _ _ _) (Ev.ifn (by simp) (same_l a h7 a.f7.length 0 (Nat.zero_add _))))))))))
end Go.Proofs.YtenigkhfldafaaaDoor.A
