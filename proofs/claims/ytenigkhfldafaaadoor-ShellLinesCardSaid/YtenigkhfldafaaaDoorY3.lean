/- shell.Print: steps as a script. -/
import Derived.Test.YtenigkhfldafaaaDoorY2
namespace Go.Proofs.YtenigkhfldafaaaDoor.A
open Go.RowKit Go.Proofs.YtenigkhfldafaaaDoorW.PrintWords Go.Proofs.YtenigkhfldafaaaDoorW.PrintLast Go.Proofs.YtenigkhfldafaaaDoorW.PrintMore
structure PrintIn (w0 : World) (acc : List UInt8) (w : World) : Prop where
 bld : Bld w0.heap.size w0.heap.size acc w
 below : Below w0.heap.size w0 w
theorem PrintIn.step {w0 w w' : World} {acc : List UInt8} (h : PrintIn w0 acc w) (hb : Below w.heap.size w w') : PrintIn w0 acc w' :=
 ⟨h.bld.below hb, h.below.trans (hb.mono h.below.size)⟩
theorem PrintIn.new (w : World) : PrintIn w [] (w.alloc (Obj.cells #[.pointer none, .slice none 0 0] 74)) := ⟨Bld.fresh w, below_new w _⟩
end Go.Proofs.YtenigkhfldafaaaDoor.A
