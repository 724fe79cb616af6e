-- WRITTEN by wip/tools/hprint.py: the kit's print.py run over this translation, with functions proved by hand laid in. Lean checks it.
import Derived.Test.YtdojpjiiihmdoaaProg
import Derived.Below
import Derived.Deep.Draws
import Derived.Deep.AppendLies
import Derived.Maps.AppendAt
import Derived.OwnWalk
import Derived.Laws.BytesArg
import Derived.Laws.MakeOwn
import Derived.Laws.OwnMore
import Derived.Deep.OwnRows
import Derived.Tactics
import Derived.Lib.ConvBytes
import Derived.Laws.Slices
import Derived.WalkKit
import Derived.KernelRfl
import Derived.RowKit3
import Derived.Deep.LoopGhost
import Derived.Deep.QuietTactic
import Derived.BigQuiet
import Derived.WideLaws
import Derived.Deep.DeepCutAuto
import Derived.Deep.CutBlock
import Derived.Deep.RegionHeld3
import Derived.Laws.Rows
import Derived.Lib.AppendStr
import Derived.ArgAppend
import Derived.Laws.IdiomCopy
import Derived.OrdersHeld
import Derived.Laws.BitsLemmas
import Derived.RowKit
import Derived.Test.YtdojpjiiihmdoaaWWords
import Derived.Test.YtdojpjiiihmdoaaWLast
import Derived.Test.YtdojpjiiihmdoaaWTab
import Derived.Test.YtdojpjiiihmdoaaWFour
import Derived.Test.YtdojpjiiihmdoaaWQPut
import Derived.Test.YtdojpjiiihmdoaaWApart
import Derived.Test.YtdojpjiiihmdoaaWArr
import Derived.Test.YtdojpjiiihmdoaaWZeros
import Derived.Test.YtdojpjiiihmdoaaWFoot
import Derived.Test.YtdojpjiiihmdoaaWKept
import Derived.Test.YtdojpjiiihmdoaaWShare
import Derived.Test.YtdojpjiiihmdoaaWN
import Derived.Test.YtdojpjiiihmdoaaWFootNe
import Derived.Test.YtdojpjiiihmdoaaWAt
import Derived.Test.YtdojpjiiihmdoaaWEqStruct
import Derived.Test.YtdojpjiiihmdoaaWRepsOne
import Derived.Test.YtdojpjiiihmdoaaWInv
import Derived.Test.YtdojpjiiihmdoaaWInvWords
import Derived.Test.YtdojpjiiihmdoaaWGuard
import Derived.Test.YtdojpjiiihmdoaaWNEv
import Derived.Test.YtdojpjiiihmdoaaWMore
import Derived.Test.YtdojpjiiihmdoaaHW
import Derived.Test.YtdojpjiiihmdoaaHB
namespace Go.Proofs.Ytdojpjiiihmdoaa.PG01
open Go.RowKit Go.Proofs.YtdojpjiiihmdoaaW.PrintWords Go.Proofs.YtdojpjiiihmdoaaW.PrintLast Go.Proofs.YtdojpjiiihmdoaaW.PrintMore Go.Proofs.YtdojpjiiihmdoaaHW
attribute [local go_sem] max2_int min2_int max_two min_two max_three min_three max_four min_four   -- for this text's walks alone
set_option linter.unusedVariables false
set_option linter.unusedSimpArgs false



def errW : Option Int → Value
  | none => .nilIface
  | some c => .iface 0 (.int .i64 c)
theorem errW_none : errW none = .nilIface := rfl
theorem errW_some (c : Int) : errW (some c) = .iface 0 (.int .i64 c) := rfl

theorem info5 : (Try.prog.info? 5).map (fun i => (i.zero, i.size, i.bytes)) = some (some (.int .u8 0), 1, 1) := by kernel_rfl
theorem info9 : (Try.prog.info? 9).map (fun i => (i.zero, i.size, i.bytes)) = some (some (.string ⟨#[]⟩), 1, 16) := by kernel_rfl
-- the values' own types

end Go.Proofs.Ytdojpjiiihmdoaa.PG01
