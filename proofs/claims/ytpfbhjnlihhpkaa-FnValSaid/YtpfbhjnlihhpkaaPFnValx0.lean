-- written for this claim by a program of this session's (a patched scratch copy of the kit's print)
import Derived.Test.YtpfbhjnlihhpkaaProg
import Derived.Below
import Derived.Deep.Draws
import Derived.Deep.AppendLies
import Derived.Maps.AppendAt
import Derived.OwnWalk
import Derived.Laws.BytesArg
import Derived.Laws.MakeOwn
import Derived.Laws.OwnMore
import Derived.Deep.OwnRows
import Derived.Tactics
import Derived.Lib.ConvBytes
import Derived.Laws.Slices
import Derived.WalkKit
import Derived.KernelRfl
import Derived.RowKit3
import Derived.Deep.LoopGhost
import Derived.Deep.QuietTactic
import Derived.BigQuiet
import Derived.WideLaws
import Derived.Deep.DeepCutAuto
import Derived.Deep.CutBlock
import Derived.Deep.RegionHeld3
import Derived.Laws.Rows
import Derived.Lib.AppendStr
import Derived.ArgAppend
import Derived.Laws.IdiomCopy
import Derived.OrdersHeld
import Derived.Laws.BitsLemmas
import Derived.RowKit
import Derived.Test.YtpfbhjnlihhpkaaWWords
import Derived.Test.YtpfbhjnlihhpkaaWLast
import Derived.Test.YtpfbhjnlihhpkaaWTab
import Derived.Test.YtpfbhjnlihhpkaaWFour
import Derived.Test.YtpfbhjnlihhpkaaWQPut
import Derived.Test.YtpfbhjnlihhpkaaWApart
import Derived.Test.YtpfbhjnlihhpkaaWArr
import Derived.Test.YtpfbhjnlihhpkaaWZeros
import Derived.Test.YtpfbhjnlihhpkaaWFoot
import Derived.Test.YtpfbhjnlihhpkaaWKept
import Derived.Test.YtpfbhjnlihhpkaaWShare
import Derived.Test.YtpfbhjnlihhpkaaWN
import Derived.Test.YtpfbhjnlihhpkaaWFootNe
import Derived.Test.YtpfbhjnlihhpkaaWAt
import Derived.Test.YtpfbhjnlihhpkaaWEqStruct
import Derived.Test.YtpfbhjnlihhpkaaWRepsOne
import Derived.Test.YtpfbhjnlihhpkaaWInv
import Derived.Test.YtpfbhjnlihhpkaaWInvWords
import Derived.Test.YtpfbhjnlihhpkaaWGuard
import Derived.Test.YtpfbhjnlihhpkaaWNEv
import Derived.Test.YtpfbhjnlihhpkaaWMore
namespace Go.Proofs.Ytpfbhjnlihhpkaa.PFnVal
open Go.RowKit Go.Proofs.YtpfbhjnlihhpkaaW.PrintWords Go.Proofs.YtpfbhjnlihhpkaaW.PrintLast Go.Proofs.YtpfbhjnlihhpkaaW.PrintMore
attribute [local go_sem] max2_int min2_int max_two min_two max_three min_three max_four min_four   -- for this text's walks alone
set_option linter.unusedVariables false
set_option linter.unusedSimpArgs false



def errW : Option Int → Value
  | none => .nilIface
  | some c => .iface 0 (.int .i64 c)
theorem errW_none : errW none = .nilIface := rfl
theorem errW_some (c : Int) : errW (some c) = .iface 0 (.int .i64 c) := rfl

theorem info3 : (Try.prog.info? 3).map (fun i => (i.zero, i.size, i.bytes)) = some (some (.int .i64 0), 1, 8) := by kernel_rfl
theorem info49 : (Try.prog.info? 49).map (fun i => (i.zero, i.size, i.bytes)) = some (some (.int .u64 0), 1, 8) := by kernel_rfl
-- the values' own types

end Go.Proofs.Ytpfbhjnlihhpkaa.PFnVal
