/- The law of lines. -/
import Derived.Test.YtenigkhfldafaaaDoorR7
import Derived.Test.YtenigkhfldafaaaDoorR8
import Derived.Test.YtenigkhfldafaaaDoorAL
namespace Go.Proofs.YtenigkhfldafaaaDoor.A
open Go.RowKit Go.Proofs.YtenigkhfldafaaaDoorW.PrintWords
set_option maxRecDepth 100000
theorem lines_law (a : S31) : ∃ k, grapnellaw21_ShellLines.f k a.f0 a.f1 a.f2 a.f3 a.f4 a.f5 a.f6 a.f7 = some true := by
 apply Ev.rounds
 have hs := short_sz a
 exact Ev.bind (short_ev a) (Ev.bind (line_ev (shortA a) hs) (Ev.bind (refline_ev (shortA a) hs) (Ev.ifp rfl (Ev.ifp rfl (Ev.bind awake_ev (Ev.now _))))))
end Go.Proofs.YtenigkhfldafaaaDoor.A
