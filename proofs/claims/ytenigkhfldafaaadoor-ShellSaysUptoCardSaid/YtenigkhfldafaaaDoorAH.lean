/- More of the kinds' facts. -/
import Derived.Test.YtenigkhfldafaaaDoorA0
namespace Go.Proofs.YtenigkhfldafaaaDoor.A
open Go.RowKit Go.Proofs.YtenigkhfldafaaaDoorW.PrintWords Go.Proofs.YtenigkhfldafaaaDoorW.PrintLast Go.Proofs.YtenigkhfldafaaaDoorW.PrintMore
theorem info65 : (Tryd.prog.info? 65).map (fun i => (i.zero, i.size, i.bytes)) = some (some (.agg #[(.string ⟨#[]⟩), (.int .i64 0), (.int .i64 0)]), 3, 32) := by kernel_rfl
theorem info67 : (Tryd.prog.info? 67).map (fun i => (i.zero, i.size, i.bytes)) = some (some (.agg #[(.int .i64 0), (.int .i64 0), (.int .i64 0), (.int .i64 0)]), 4, 32) := by kernel_rfl
end Go.Proofs.YtenigkhfldafaaaDoor.A
