-- WRITTEN by wip/tools/hprint.py: the kit's print.py run over this translation, with functions proved by hand laid in. Lean checks it.
import Derived.Test.YtdlpoemjgeehgaaPG18x0
import Derived.Test.YtdlpoemjgeehgaaPG18x1
import Derived.Test.YtdlpoemjgeehgaaPG18x2
import Derived.Test.YtdlpoemjgeehgaaPG18x3
import Derived.Test.YtdlpoemjgeehgaaPG18x4
import Derived.Test.YtdlpoemjgeehgaaPG18x5
import Derived.Test.YtdlpoemjgeehgaaPG18x6
import Derived.Test.YtdlpoemjgeehgaaPG18x7
import Derived.Test.YtdlpoemjgeehgaaPG18x8
import Derived.Test.YtdlpoemjgeehgaaPG18x9
import Derived.Test.YtdlpoemjgeehgaaPG18x10
import Derived.Test.YtdlpoemjgeehgaaPG18x11
import Derived.Test.YtdlpoemjgeehgaaPG18x12
import Derived.Test.YtdlpoemjgeehgaaPG18x13
import Derived.Test.YtdlpoemjgeehgaaPG18x14
import Derived.Test.YtdlpoemjgeehgaaPG18x15
import Derived.Test.YtdlpoemjgeehgaaPG18x16
import Derived.Test.YtdlpoemjgeehgaaPG18x17
import Derived.Test.YtdlpoemjgeehgaaPG18x18
import Derived.Test.YtdlpoemjgeehgaaPG18x19
import Derived.Test.YtdlpoemjgeehgaaPG18x20
import Derived.Test.YtdlpoemjgeehgaaPG18x21
import Derived.Test.YtdlpoemjgeehgaaPG18x22
import Derived.Test.YtdlpoemjgeehgaaPG18x23
import Derived.Test.YtdlpoemjgeehgaaPG18x24
import Derived.Test.YtdlpoemjgeehgaaPG18x25
namespace Go.Proofs.Ytdlpoemjgeehgaa.PG18
open Go.RowKit Go.Proofs.YtdlpoemjgeehgaaW.PrintWords Go.Proofs.YtdlpoemjgeehgaaW.PrintLast Go.Proofs.YtdlpoemjgeehgaaW.PrintMore Go.Proofs.YtdlpoemjgeehgaaHW
attribute [local go_sem] max2_int min2_int max_two min_two max_three min_three max_four min_four   -- for this text's walks alone
set_option linter.unusedVariables false
set_option linter.unusedSimpArgs false

end Go.Proofs.Ytdlpoemjgeehgaa.PG18
