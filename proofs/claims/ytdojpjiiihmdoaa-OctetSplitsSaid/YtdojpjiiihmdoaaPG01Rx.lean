-- WRITTEN by wip/tools/hprint.py: the kit's print.py run over this translation, with functions proved by hand laid in. Lean checks it.
import Derived.Test.YtdojpjiiihmdoaaPG01Rx0
import Derived.Test.YtdojpjiiihmdoaaPG01Rx1
import Derived.Test.YtdojpjiiihmdoaaPG01Rx2
import Derived.Test.YtdojpjiiihmdoaaPG01Rx3
import Derived.Test.YtdojpjiiihmdoaaPG01Rx4
import Derived.Test.YtdojpjiiihmdoaaPG01Rx5
import Derived.Test.YtdojpjiiihmdoaaPG01Rx6
import Derived.Test.YtdojpjiiihmdoaaPG01Rx7
import Derived.Test.YtdojpjiiihmdoaaPG01Rx8
import Derived.Test.YtdojpjiiihmdoaaPG01Rx9
import Derived.Test.YtdojpjiiihmdoaaPG01Rx10
import Derived.Test.YtdojpjiiihmdoaaPG01Rx11
import Derived.Test.YtdojpjiiihmdoaaPG01Rx12
namespace Go.Proofs.Ytdojpjiiihmdoaa.PG01R
open Go.RowKit Go.Proofs.YtdojpjiiihmdoaaW.PrintWords Go.Proofs.YtdojpjiiihmdoaaW.PrintLast Go.Proofs.YtdojpjiiihmdoaaW.PrintMore Go.Proofs.YtdojpjiiihmdoaaHW
attribute [local go_sem] max2_int min2_int max_two min_two max_three min_three max_four min_four   -- for this text's walks alone
set_option linter.unusedVariables false
set_option linter.unusedSimpArgs false

end Go.Proofs.Ytdojpjiiihmdoaa.PG01R
