-- Written by a program of this session: the printer, with contracts put in that were proved by hand. Lean checks it.
import Derived.Test.YtbbpjjbgdemmpaaProg
import Derived.Below
import Derived.Deep.Draws
import Derived.Deep.AppendLies
import Derived.Maps.AppendAt
import Derived.OwnWalk
import Derived.Laws.BytesArg
import Derived.Laws.MakeOwn
import Derived.Laws.OwnMore
import Derived.Deep.OwnRows
import Derived.Tactics
import Derived.Lib.ConvBytes
import Derived.Laws.Slices
import Derived.WalkKit
import Derived.KernelRfl
import Derived.RowKit3
import Derived.Deep.LoopGhost
import Derived.Deep.QuietTactic
import Derived.BigQuiet
import Derived.WideLaws
import Derived.Deep.DeepCutAuto
import Derived.Deep.CutBlock
import Derived.Deep.RegionHeld3
import Derived.Laws.Rows
import Derived.Lib.AppendStr
import Derived.ArgAppend
import Derived.Laws.IdiomCopy
import Derived.OrdersHeld
import Derived.Laws.BitsLemmas
import Derived.RowKit
import Derived.Test.YtbbpjjbgdemmpaaL
import Derived.Test.YtbbpjjbgdemmpaaWWords
import Derived.Test.YtbbpjjbgdemmpaaWLast
import Derived.Test.YtbbpjjbgdemmpaaWTab
import Derived.Test.YtbbpjjbgdemmpaaWFour
import Derived.Test.YtbbpjjbgdemmpaaWQPut
import Derived.Test.YtbbpjjbgdemmpaaWApart
import Derived.Test.YtbbpjjbgdemmpaaWArr
import Derived.Test.YtbbpjjbgdemmpaaWZeros
import Derived.Test.YtbbpjjbgdemmpaaWFoot
import Derived.Test.YtbbpjjbgdemmpaaWKept
import Derived.Test.YtbbpjjbgdemmpaaWShare
import Derived.Test.YtbbpjjbgdemmpaaWN
import Derived.Test.YtbbpjjbgdemmpaaWFootNe
import Derived.Test.YtbbpjjbgdemmpaaWAt
import Derived.Test.YtbbpjjbgdemmpaaWEqStruct
import Derived.Test.YtbbpjjbgdemmpaaWRepsOne
import Derived.Test.YtbbpjjbgdemmpaaWInv
import Derived.Test.YtbbpjjbgdemmpaaWInvWords
import Derived.Test.YtbbpjjbgdemmpaaWGuard
import Derived.Test.YtbbpjjbgdemmpaaWNEv
import Derived.Test.YtbbpjjbgdemmpaaWMore
namespace Go.Proofs.Ytbbpjjbgdemmpaa.PCallWords
open Go.RowKit Go.Proofs.YtbbpjjbgdemmpaaW.PrintWords Go.Proofs.YtbbpjjbgdemmpaaW.PrintLast Go.Proofs.YtbbpjjbgdemmpaaW.PrintMore
attribute [local go_sem] max2_int min2_int max_two min_two max_three min_three max_four min_four   -- for this text's walks alone
set_option linter.unusedVariables false
set_option linter.unusedSimpArgs false



def errW : Option Int → Value
  | none => .nilIface
  | some c => .iface 0 (.int .i64 c)
theorem errW_none : errW none = .nilIface := rfl
theorem errW_some (c : Int) : errW (some c) = .iface 0 (.int .i64 c) := rfl

theorem info5 : (Try.prog.info? 5).map (fun i => (i.zero, i.size, i.bytes)) = some (some (.int .u8 0), 1, 1) := by kernel_rfl
-- the values' own types

end Go.Proofs.Ytbbpjjbgdemmpaa.PCallWords
