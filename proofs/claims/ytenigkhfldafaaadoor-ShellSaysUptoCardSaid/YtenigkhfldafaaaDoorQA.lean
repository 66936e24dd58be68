/- The document's second example. -/
import Derived.Test.YtenigkhfldafaaaDoorA10
namespace Go.Proofs.YtenigkhfldafaaaDoor.A
open Go.RowKit Go.Proofs.YtenigkhfldafaaaDoorW.PrintWords
set_option maxRecDepth 100000
theorem awake_ok : grapnellaw21_awake.f 60 = some true := by decide +kernel
theorem awake_ev : Ev (fun k => grapnellaw21_awake.f k) true := Ev.of (fun k => grapnellaw21_awake.mono k) (k := 60) awake_ok
end Go.Proofs.YtenigkhfldafaaaDoor.A
