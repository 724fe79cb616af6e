-- WRITTEN by wip/tools/hprint.py: the kit's print.py run over this translation, with functions proved by hand laid in. Lean checks it.
import Derived.Test.YtdlpoemjgeehgaaPG11Tx0
import Derived.Test.YtdlpoemjgeehgaaPG11Tx1
import Derived.Test.YtdlpoemjgeehgaaPG11Tx2
import Derived.Test.YtdlpoemjgeehgaaPG11Tx3
import Derived.Test.YtdlpoemjgeehgaaPG11Tx4
import Derived.Test.YtdlpoemjgeehgaaPG11Tx5
import Derived.Test.YtdlpoemjgeehgaaPG11Tx6
import Derived.Test.YtdlpoemjgeehgaaPG11Tx7
import Derived.Test.YtdlpoemjgeehgaaPG11Tx8
import Derived.Test.YtdlpoemjgeehgaaPG11Tx9
import Derived.Test.YtdlpoemjgeehgaaPG11Tx10
import Derived.Test.YtdlpoemjgeehgaaPG11Tx11
import Derived.Test.YtdlpoemjgeehgaaPG11Tx12
import Derived.Test.YtdlpoemjgeehgaaPG11Tx13
import Derived.Test.YtdlpoemjgeehgaaPG11Tx14
import Derived.Test.YtdlpoemjgeehgaaPG11Tx15
import Derived.Test.YtdlpoemjgeehgaaPG11Tx16
import Derived.Test.YtdlpoemjgeehgaaPG11Tx17
import Derived.Test.YtdlpoemjgeehgaaPG11Tx18
import Derived.Test.YtdlpoemjgeehgaaPG11Tx19
import Derived.Test.YtdlpoemjgeehgaaPG11Tx20
import Derived.Test.YtdlpoemjgeehgaaPG11Tx21
import Derived.Test.YtdlpoemjgeehgaaPG11Tx22
import Derived.Test.YtdlpoemjgeehgaaPG11Tx23
import Derived.Test.YtdlpoemjgeehgaaPG11Tx24
namespace Go.Proofs.Ytdlpoemjgeehgaa.PG11T
open Go.RowKit Go.Proofs.YtdlpoemjgeehgaaW.PrintWords Go.Proofs.YtdlpoemjgeehgaaW.PrintLast Go.Proofs.YtdlpoemjgeehgaaW.PrintMore Go.Proofs.YtdlpoemjgeehgaaHW
attribute [local go_sem] max2_int min2_int max_two min_two max_three min_three max_four min_four   -- for this text's walks alone
set_option linter.unusedVariables false
set_option linter.unusedSimpArgs false

end Go.Proofs.Ytdlpoemjgeehgaa.PG11T
