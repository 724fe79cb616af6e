-- WRITTEN by wip/tools/hprint.py: the kit's print.py run over this translation, with functions proved by hand laid in. Lean checks it.
import Derived.Test.YtdlpoemjgeehgaaPG06x0
import Derived.Test.YtdlpoemjgeehgaaPG06x1
import Derived.Test.YtdlpoemjgeehgaaPG06x2
import Derived.Test.YtdlpoemjgeehgaaPG06x3
import Derived.Test.YtdlpoemjgeehgaaPG06x4
import Derived.Test.YtdlpoemjgeehgaaPG06x5
import Derived.Test.YtdlpoemjgeehgaaPG06x6
import Derived.Test.YtdlpoemjgeehgaaPG06x7
import Derived.Test.YtdlpoemjgeehgaaPG06x8
import Derived.Test.YtdlpoemjgeehgaaPG06x9
import Derived.Test.YtdlpoemjgeehgaaPG06x10
import Derived.Test.YtdlpoemjgeehgaaPG06x11
import Derived.Test.YtdlpoemjgeehgaaPG06x12
import Derived.Test.YtdlpoemjgeehgaaPG06x13
import Derived.Test.YtdlpoemjgeehgaaPG06x14
import Derived.Test.YtdlpoemjgeehgaaPG06x15
import Derived.Test.YtdlpoemjgeehgaaPG06x16
import Derived.Test.YtdlpoemjgeehgaaPG06x17
namespace Go.Proofs.Ytdlpoemjgeehgaa.PG06
open Go.RowKit Go.Proofs.YtdlpoemjgeehgaaW.PrintWords Go.Proofs.YtdlpoemjgeehgaaW.PrintLast Go.Proofs.YtdlpoemjgeehgaaW.PrintMore Go.Proofs.YtdlpoemjgeehgaaHW
attribute [local go_sem] max2_int min2_int max_two min_two max_three min_three max_four min_four   -- for this text's walks alone
set_option linter.unusedVariables false
set_option linter.unusedSimpArgs false

end Go.Proofs.Ytdlpoemjgeehgaa.PG06
