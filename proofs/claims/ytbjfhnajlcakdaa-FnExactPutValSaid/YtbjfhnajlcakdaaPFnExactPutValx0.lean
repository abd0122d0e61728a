-- written for this claim by a program of this session's (a patched scratch copy of the kit's print)
import Derived.Test.YtbjfhnajlcakdaaProg
import Derived.Below
import Derived.Deep.Draws
import Derived.Deep.AppendLies
import Derived.Maps.AppendAt
import Derived.OwnWalk
import Derived.Laws.BytesArg
import Derived.Laws.MakeOwn
import Derived.Laws.OwnMore
import Derived.Deep.OwnRows
import Derived.Tactics
import Derived.Lib.ConvBytes
import Derived.Laws.Slices
import Derived.WalkKit
import Derived.KernelRfl
import Derived.RowKit3
import Derived.Deep.LoopGhost
import Derived.Deep.QuietTactic
import Derived.BigQuiet
import Derived.WideLaws
import Derived.Deep.DeepCutAuto
import Derived.Deep.CutBlock
import Derived.Deep.RegionHeld3
import Derived.Laws.Rows
import Derived.Lib.AppendStr
import Derived.ArgAppend
import Derived.Laws.IdiomCopy
import Derived.OrdersHeld
import Derived.Laws.BitsLemmas
import Derived.RowKit
import Derived.Test.YtbjfhnajlcakdaaWWords
import Derived.Test.YtbjfhnajlcakdaaWLast
import Derived.Test.YtbjfhnajlcakdaaWTab
import Derived.Test.YtbjfhnajlcakdaaWFour
import Derived.Test.YtbjfhnajlcakdaaWQPut
import Derived.Test.YtbjfhnajlcakdaaWApart
import Derived.Test.YtbjfhnajlcakdaaWArr
import Derived.Test.YtbjfhnajlcakdaaWZeros
import Derived.Test.YtbjfhnajlcakdaaWFoot
import Derived.Test.YtbjfhnajlcakdaaWKept
import Derived.Test.YtbjfhnajlcakdaaWShare
import Derived.Test.YtbjfhnajlcakdaaWN
import Derived.Test.YtbjfhnajlcakdaaWFootNe
import Derived.Test.YtbjfhnajlcakdaaWAt
import Derived.Test.YtbjfhnajlcakdaaWEqStruct
import Derived.Test.YtbjfhnajlcakdaaWRepsOne
import Derived.Test.YtbjfhnajlcakdaaWInv
import Derived.Test.YtbjfhnajlcakdaaWInvWords
import Derived.Test.YtbjfhnajlcakdaaWGuard
import Derived.Test.YtbjfhnajlcakdaaWNEv
import Derived.Test.YtbjfhnajlcakdaaWMore
namespace Go.Proofs.Ytbjfhnajlcakdaa.PFnExactPutVal
open Go.RowKit Go.Proofs.YtbjfhnajlcakdaaW.PrintWords Go.Proofs.YtbjfhnajlcakdaaW.PrintLast Go.Proofs.YtbjfhnajlcakdaaW.PrintMore
attribute [local go_sem] max2_int min2_int max_two min_two max_three min_three max_four min_four   -- for this text's walks alone
set_option linter.unusedVariables false
set_option linter.unusedSimpArgs false



def errW : Option Int → Value
  | none => .nilIface
  | some c => .iface 0 (.int .i64 c)
theorem errW_none : errW none = .nilIface := rfl
theorem errW_some (c : Int) : errW (some c) = .iface 0 (.int .i64 c) := rfl

theorem info23 : (Try.prog.info? 23).map (fun i => (i.zero, i.size, i.bytes)) = some (some (.int .u64 0), 1, 8) := by kernel_rfl
-- the values' own types

end Go.Proofs.Ytbjfhnajlcakdaa.PFnExactPutVal
