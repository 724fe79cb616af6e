/- The walk of the law halyard/halyardlaw06.FieldBack: the call returns true, whatever the input; no condition. -/
import Derived.Test.YtdlpoemjgeehgaaPG06x0
import Derived.Test.YtdlpoemjgeehgaaPG06x1
import Derived.Test.YtdlpoemjgeehgaaPG06x2
import Derived.Test.YtdlpoemjgeehgaaPG06x3
import Derived.Test.YtdlpoemjgeehgaaPG06x4
import Derived.Test.YtdlpoemjgeehgaaPG06x5
import Derived.Test.YtdlpoemjgeehgaaPG06x6
import Derived.Test.YtdlpoemjgeehgaaPG06x7
import Derived.Test.YtdlpoemjgeehgaaPG06x8
import Derived.Test.YtdlpoemjgeehgaaPG06x9
import Derived.Test.YtdlpoemjgeehgaaPG06x10
import Derived.Test.YtdlpoemjgeehgaaPG06x11
import Derived.Test.YtdlpoemjgeehgaaPG06x12
import Derived.Test.YtdlpoemjgeehgaaPG06x13
import Derived.Test.YtdlpoemjgeehgaaPG06x14
import Derived.Test.YtdlpoemjgeehgaaPG06x15
import Derived.Test.YtdlpoemjgeehgaaPG06x16
import Derived.Test.YtdlpoemjgeehgaaPG06x17
import Derived.Test.YtdlpoemjgeehgaaHW
import Derived.Test.YtdlpoemjgeehgaaPureFieldBack
namespace Go.Proofs.Ytdlpoemjgeehgaa.PG06
open Go.RowKit Go.Proofs.YtdlpoemjgeehgaaW.PrintWords Go.Proofs.YtdlpoemjgeehgaaW.PrintLast Go.Proofs.YtdlpoemjgeehgaaW.PrintMore Go.Proofs.YtdlpoemjgeehgaaHW
attribute [local go_sem] max2_int min2_int max_two min_two max_three min_three max_four min_four
set_option linter.unusedVariables false
set_option linter.unusedSimpArgs false
theorem halyardlaw06_FieldBack.run (a0 : Int) (a1 : ByteArray) (a2_0 a2_1 : Bool) (a3 : ByteArray) (w : World)
    (_l0 : 0 ≤ a0) (_u0 : a0 ≤ 65535) (h1 : a1.size ≤ 140737488351232) (h3 : a3.size ≤ 140737488351232) :
    Calls Try.prog 7 #[.int .u16 a0, .string a1, .agg #[.bool a2_0, .bool a2_1], .string a3] w fun e w' => e = .returned (.bool true) ∧ Below w.heap.size w w' := by
  obtain ⟨k, h⟩ := Go.Proofs.Ytdlpoemjgeehgaa.Pure.FieldBack a0 a1 a2_0 a2_1 a3 _l0 _u0 h1 h3
  exact halyardlaw06_FieldBack.calls k a0 a1 a2_0 a2_1 a3 true w h

end Go.Proofs.Ytdlpoemjgeehgaa.PG06
