-- WRITTEN by wip/tools/hprint.py: the kit's print.py run over this translation, with functions proved by hand laid in. Lean checks it.
import Derived.Test.YtdlpoemjgeehgaaPG11x0
import Derived.Test.YtdlpoemjgeehgaaPG11x1
import Derived.Test.YtdlpoemjgeehgaaPG11x2
import Derived.Test.YtdlpoemjgeehgaaPG11x3
import Derived.Test.YtdlpoemjgeehgaaPG11x4
import Derived.Test.YtdlpoemjgeehgaaPG11x5
import Derived.Test.YtdlpoemjgeehgaaPG11x6
import Derived.Test.YtdlpoemjgeehgaaPG11x7
import Derived.Test.YtdlpoemjgeehgaaPG11x8
import Derived.Test.YtdlpoemjgeehgaaPG11x9
import Derived.Test.YtdlpoemjgeehgaaPG11x10
import Derived.Test.YtdlpoemjgeehgaaPG11x11
import Derived.Test.YtdlpoemjgeehgaaPG11x12
import Derived.Test.YtdlpoemjgeehgaaPG11x13
import Derived.Test.YtdlpoemjgeehgaaPG11x14
import Derived.Test.YtdlpoemjgeehgaaPG11x15
import Derived.Test.YtdlpoemjgeehgaaPG11x16
import Derived.Test.YtdlpoemjgeehgaaPG11x17
import Derived.Test.YtdlpoemjgeehgaaPG11x18
import Derived.Test.YtdlpoemjgeehgaaPG11x19
import Derived.Test.YtdlpoemjgeehgaaPG11x20
import Derived.Test.YtdlpoemjgeehgaaPG11x21
import Derived.Test.YtdlpoemjgeehgaaPG11x22
import Derived.Test.YtdlpoemjgeehgaaPG11x23
import Derived.Test.YtdlpoemjgeehgaaPG11x24
import Derived.Test.YtdlpoemjgeehgaaPG11x25
import Derived.Test.YtdlpoemjgeehgaaPG11x26
namespace Go.Proofs.Ytdlpoemjgeehgaa.PG11
open Go.RowKit Go.Proofs.YtdlpoemjgeehgaaW.PrintWords Go.Proofs.YtdlpoemjgeehgaaW.PrintLast Go.Proofs.YtdlpoemjgeehgaaW.PrintMore Go.Proofs.YtdlpoemjgeehgaaHW
attribute [local go_sem] max2_int min2_int max_two min_two max_three min_three max_four min_four   -- for this text's walks alone
set_option linter.unusedVariables false
set_option linter.unusedSimpArgs false

end Go.Proofs.Ytdlpoemjgeehgaa.PG11
