-- PRINTED by print.py (a twelfth state) out of the translation. Not trusted: Lean checks it.
import Derived.Test.YtodamaaiglipaaaDoorProg
import Derived.Below
import Derived.Deep.Draws
import Derived.Deep.AppendLies
import Derived.Maps.AppendAt
import Derived.OwnWalk
import Derived.Laws.BytesArg
import Derived.Laws.MakeOwn
import Derived.Laws.OwnMore
import Derived.Deep.OwnRows
import Derived.Tactics
import Derived.Lib.ConvBytes
import Derived.Laws.Slices
import Derived.WalkKit
import Derived.KernelRfl
import Derived.RowKit3
import Derived.Deep.LoopGhost
import Derived.Deep.QuietTactic
import Derived.BigQuiet
import Derived.WideLaws
import Derived.Deep.DeepCutAuto
import Derived.Deep.CutBlock
import Derived.Deep.RegionHeld3
import Derived.Laws.Rows
import Derived.Lib.AppendStr
import Derived.ArgAppend
import Derived.Laws.IdiomCopy
import Derived.OrdersHeld
import Derived.Laws.BitsLemmas
import Derived.RowKit
import Derived.Test.YtodamaaiglipaaaDoorWWords
import Derived.Test.YtodamaaiglipaaaDoorWLast
import Derived.Test.YtodamaaiglipaaaDoorWTab
import Derived.Test.YtodamaaiglipaaaDoorWFour
import Derived.Test.YtodamaaiglipaaaDoorWQPut
import Derived.Test.YtodamaaiglipaaaDoorWApart
import Derived.Test.YtodamaaiglipaaaDoorWArr
import Derived.Test.YtodamaaiglipaaaDoorWZeros
import Derived.Test.YtodamaaiglipaaaDoorWFoot
import Derived.Test.YtodamaaiglipaaaDoorWKept
import Derived.Test.YtodamaaiglipaaaDoorWShare
import Derived.Test.YtodamaaiglipaaaDoorWN
import Derived.Test.YtodamaaiglipaaaDoorWFootNe
import Derived.Test.YtodamaaiglipaaaDoorWAt
import Derived.Test.YtodamaaiglipaaaDoorWEqStruct
import Derived.Test.YtodamaaiglipaaaDoorWRepsOne
import Derived.Test.YtodamaaiglipaaaDoorWInv
import Derived.Test.YtodamaaiglipaaaDoorWInvWords
import Derived.Test.YtodamaaiglipaaaDoorWGuard
import Derived.Test.YtodamaaiglipaaaDoorWNEv
import Derived.Test.YtodamaaiglipaaaDoorWMore
import Derived.Test.YtodamaaiglipaaaDoorX2
namespace Go.Proofs.YtodamaaiglipaaaDoor.A
open Go.RowKit Go.Proofs.YtodamaaiglipaaaDoorW.PrintWords Go.Proofs.YtodamaaiglipaaaDoorW.PrintLast Go.Proofs.YtodamaaiglipaaaDoorW.PrintMore
attribute [local go_sem] max2_int min2_int max_two min_two max_three min_three max_four min_four   -- for this text's walks alone
set_option linter.unusedVariables false
set_option linter.unusedSimpArgs false



def errW : Option Int → Value
  | none => .nilIface
  | some c => .iface 0 (.int .i64 c)
theorem errW_none : errW none = .nilIface := rfl
theorem errW_some (c : Int) : errW (some c) = .iface 0 (.int .i64 c) := rfl

theorem info5 : (Tryd.prog.info? 5).map (fun i => (i.zero, i.size, i.bytes)) = some (some (.int .u8 0), 1, 1) := by kernel_rfl
theorem info9 : (Tryd.prog.info? 9).map (fun i => (i.zero, i.size, i.bytes)) = some (some (.string ⟨#[]⟩), 1, 16) := by kernel_rfl
-- the values' own types

end Go.Proofs.YtodamaaiglipaaaDoor.A
