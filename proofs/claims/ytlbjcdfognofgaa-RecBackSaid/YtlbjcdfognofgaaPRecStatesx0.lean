-- PRINTED BY print.sh 35421559b90ae4d0a3588c463048766b98c2df88dd9212a6774a882060cdf62d: not written by this session
import Derived.Test.YtlbjcdfognofgaaProg
import Derived.Below
import Derived.Deep.Draws
import Derived.Deep.AppendLies
import Derived.Maps.AppendAt
import Derived.OwnWalk
import Derived.Laws.BytesArg
import Derived.Laws.MakeOwn
import Derived.Laws.OwnMore
import Derived.Deep.OwnRows
import Derived.Tactics
import Derived.Lib.ConvBytes
import Derived.Laws.Slices
import Derived.WalkKit
import Derived.KernelRfl
import Derived.RowKit3
import Derived.Deep.LoopGhost
import Derived.Deep.QuietTactic
import Derived.BigQuiet
import Derived.WideLaws
import Derived.Deep.DeepCutAuto
import Derived.Deep.CutBlock
import Derived.Deep.RegionHeld3
import Derived.Laws.Rows
import Derived.Lib.AppendStr
import Derived.ArgAppend
import Derived.Laws.IdiomCopy
import Derived.OrdersHeld
import Derived.Laws.BitsLemmas
import Derived.RowKit
import Derived.Test.YtlbjcdfognofgaaWWords
import Derived.Test.YtlbjcdfognofgaaWLast
import Derived.Test.YtlbjcdfognofgaaWTab
import Derived.Test.YtlbjcdfognofgaaWFour
import Derived.Test.YtlbjcdfognofgaaWQPut
import Derived.Test.YtlbjcdfognofgaaWApart
import Derived.Test.YtlbjcdfognofgaaWArr
import Derived.Test.YtlbjcdfognofgaaWZeros
import Derived.Test.YtlbjcdfognofgaaWFoot
import Derived.Test.YtlbjcdfognofgaaWKept
import Derived.Test.YtlbjcdfognofgaaWShare
import Derived.Test.YtlbjcdfognofgaaWN
import Derived.Test.YtlbjcdfognofgaaWFootNe
import Derived.Test.YtlbjcdfognofgaaWAt
import Derived.Test.YtlbjcdfognofgaaWEqStruct
import Derived.Test.YtlbjcdfognofgaaWRepsOne
import Derived.Test.YtlbjcdfognofgaaWInv
import Derived.Test.YtlbjcdfognofgaaWInvWords
import Derived.Test.YtlbjcdfognofgaaWGuard
import Derived.Test.YtlbjcdfognofgaaWNEv
import Derived.Test.YtlbjcdfognofgaaWMore
namespace Go.Proofs.Ytlbjcdfognofgaa.PRecStates
open Go.RowKit Go.Proofs.YtlbjcdfognofgaaW.PrintWords Go.Proofs.YtlbjcdfognofgaaW.PrintLast Go.Proofs.YtlbjcdfognofgaaW.PrintMore
attribute [local go_sem] max2_int min2_int max_two min_two max_three min_three max_four min_four   -- for this text's walks alone
set_option linter.unusedVariables false
set_option linter.unusedSimpArgs false



def errW : Option Int → Value
  | none => .nilIface
  | some c => .iface 0 (.int .i64 c)
theorem errW_none : errW none = .nilIface := rfl
theorem errW_some (c : Int) : errW (some c) = .iface 0 (.int .i64 c) := rfl

theorem info3 : (Try.prog.info? 3).map (fun i => (i.zero, i.size, i.bytes)) = some (some (.int .i64 0), 1, 8) := by kernel_rfl
theorem info5 : (Try.prog.info? 5).map (fun i => (i.zero, i.size, i.bytes)) = some (some (.int .u8 0), 1, 1) := by kernel_rfl
-- the values' own types

end Go.Proofs.Ytlbjcdfognofgaa.PRecStates
