-- WRITTEN by wip/tools/hprint.py: the kit's print.py run over this translation, with functions proved by hand laid in. Lean checks it.
import Derived.Test.YtdlpoemjgeehgaaProg
import Derived.Below
import Derived.Deep.Draws
import Derived.Deep.AppendLies
import Derived.Maps.AppendAt
import Derived.OwnWalk
import Derived.Laws.BytesArg
import Derived.Laws.MakeOwn
import Derived.Laws.OwnMore
import Derived.Deep.OwnRows
import Derived.Tactics
import Derived.Lib.ConvBytes
import Derived.Laws.Slices
import Derived.WalkKit
import Derived.KernelRfl
import Derived.RowKit3
import Derived.Deep.LoopGhost
import Derived.Deep.QuietTactic
import Derived.BigQuiet
import Derived.WideLaws
import Derived.Deep.DeepCutAuto
import Derived.Deep.CutBlock
import Derived.Deep.RegionHeld3
import Derived.Laws.Rows
import Derived.Lib.AppendStr
import Derived.ArgAppend
import Derived.Laws.IdiomCopy
import Derived.OrdersHeld
import Derived.Laws.BitsLemmas
import Derived.RowKit
import Derived.Test.YtdlpoemjgeehgaaWWords
import Derived.Test.YtdlpoemjgeehgaaWLast
import Derived.Test.YtdlpoemjgeehgaaWTab
import Derived.Test.YtdlpoemjgeehgaaWFour
import Derived.Test.YtdlpoemjgeehgaaWQPut
import Derived.Test.YtdlpoemjgeehgaaWApart
import Derived.Test.YtdlpoemjgeehgaaWArr
import Derived.Test.YtdlpoemjgeehgaaWZeros
import Derived.Test.YtdlpoemjgeehgaaWFoot
import Derived.Test.YtdlpoemjgeehgaaWKept
import Derived.Test.YtdlpoemjgeehgaaWShare
import Derived.Test.YtdlpoemjgeehgaaWN
import Derived.Test.YtdlpoemjgeehgaaWFootNe
import Derived.Test.YtdlpoemjgeehgaaWAt
import Derived.Test.YtdlpoemjgeehgaaWEqStruct
import Derived.Test.YtdlpoemjgeehgaaWRepsOne
import Derived.Test.YtdlpoemjgeehgaaWInv
import Derived.Test.YtdlpoemjgeehgaaWInvWords
import Derived.Test.YtdlpoemjgeehgaaWGuard
import Derived.Test.YtdlpoemjgeehgaaWNEv
import Derived.Test.YtdlpoemjgeehgaaWMore
import Derived.Test.YtdlpoemjgeehgaaHW
import Derived.Test.YtdlpoemjgeehgaaHB
namespace Go.Proofs.Ytdlpoemjgeehgaa.PG11T
open Go.RowKit Go.Proofs.YtdlpoemjgeehgaaW.PrintWords Go.Proofs.YtdlpoemjgeehgaaW.PrintLast Go.Proofs.YtdlpoemjgeehgaaW.PrintMore Go.Proofs.YtdlpoemjgeehgaaHW
attribute [local go_sem] max2_int min2_int max_two min_two max_three min_three max_four min_four   -- for this text's walks alone
set_option linter.unusedVariables false
set_option linter.unusedSimpArgs false



def errW : Option Int → Value
  | none => .nilIface
  | some c => .iface 0 (.int .i64 c)
theorem errW_none : errW none = .nilIface := rfl
theorem errW_some (c : Int) : errW (some c) = .iface 0 (.int .i64 c) := rfl

theorem info5 : (Try.prog.info? 5).map (fun i => (i.zero, i.size, i.bytes)) = some (some (.int .u8 0), 1, 1) := by kernel_rfl
theorem info9 : (Try.prog.info? 9).map (fun i => (i.zero, i.size, i.bytes)) = some (some (.string ⟨#[]⟩), 1, 16) := by kernel_rfl
-- the values' own types

end Go.Proofs.Ytdlpoemjgeehgaa.PG11T
