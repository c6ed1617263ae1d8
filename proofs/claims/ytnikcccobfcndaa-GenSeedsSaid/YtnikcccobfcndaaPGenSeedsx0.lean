-- Written by a program of this session: the printer, with contracts put in that were proved by hand. Lean checks it.
import Derived.Test.YtnikcccobfcndaaProg
import Derived.Below
import Derived.Deep.Draws
import Derived.Deep.AppendLies
import Derived.Maps.AppendAt
import Derived.OwnWalk
import Derived.Laws.BytesArg
import Derived.Laws.MakeOwn
import Derived.Laws.OwnMore
import Derived.Deep.OwnRows
import Derived.Tactics
import Derived.Lib.ConvBytes
import Derived.Laws.Slices
import Derived.WalkKit
import Derived.KernelRfl
import Derived.RowKit3
import Derived.Deep.LoopGhost
import Derived.Deep.QuietTactic
import Derived.BigQuiet
import Derived.WideLaws
import Derived.Deep.DeepCutAuto
import Derived.Deep.CutBlock
import Derived.Deep.RegionHeld3
import Derived.Laws.Rows
import Derived.Lib.AppendStr
import Derived.ArgAppend
import Derived.Laws.IdiomCopy
import Derived.OrdersHeld
import Derived.Laws.BitsLemmas
import Derived.RowKit
import Derived.Test.YtnikcccobfcndaaL
import Derived.Test.YtnikcccobfcndaaL2
import Derived.Test.YtnikcccobfcndaaWWords
import Derived.Test.YtnikcccobfcndaaWLast
import Derived.Test.YtnikcccobfcndaaWTab
import Derived.Test.YtnikcccobfcndaaWFour
import Derived.Test.YtnikcccobfcndaaWQPut
import Derived.Test.YtnikcccobfcndaaWApart
import Derived.Test.YtnikcccobfcndaaWArr
import Derived.Test.YtnikcccobfcndaaWZeros
import Derived.Test.YtnikcccobfcndaaWFoot
import Derived.Test.YtnikcccobfcndaaWKept
import Derived.Test.YtnikcccobfcndaaWShare
import Derived.Test.YtnikcccobfcndaaWN
import Derived.Test.YtnikcccobfcndaaWFootNe
import Derived.Test.YtnikcccobfcndaaWAt
import Derived.Test.YtnikcccobfcndaaWEqStruct
import Derived.Test.YtnikcccobfcndaaWRepsOne
import Derived.Test.YtnikcccobfcndaaWInv
import Derived.Test.YtnikcccobfcndaaWInvWords
import Derived.Test.YtnikcccobfcndaaWGuard
import Derived.Test.YtnikcccobfcndaaWNEv
import Derived.Test.YtnikcccobfcndaaWMore
namespace Go.Proofs.Ytnikcccobfcndaa.PGenSeeds
open Go.RowKit Go.Proofs.YtnikcccobfcndaaW.PrintWords Go.Proofs.YtnikcccobfcndaaW.PrintLast Go.Proofs.YtnikcccobfcndaaW.PrintMore
attribute [local go_sem] L.setCell_drewN max2_int min2_int max_two min_two max_three min_three max_four min_four   -- for this text's walks alone
set_option linter.unusedVariables false
set_option linter.unusedSimpArgs false



def errW : Option Int → Value
  | none => .nilIface
  | some c => .iface 0 (.int .i64 c)
theorem errW_none : errW none = .nilIface := rfl
theorem errW_some (c : Int) : errW (some c) = .iface 0 (.int .i64 c) := rfl

theorem info5 : (Try.prog.info? 5).map (fun i => (i.zero, i.size, i.bytes)) = some (some (.int .u8 0), 1, 1) := by kernel_rfl
-- the values' own types

end Go.Proofs.Ytnikcccobfcndaa.PGenSeeds
