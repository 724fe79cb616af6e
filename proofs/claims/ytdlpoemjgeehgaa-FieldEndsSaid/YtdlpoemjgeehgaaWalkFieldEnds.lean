/- The walk of the law halyard/halyardlaw06.FieldEnds: the call returns true, whatever the input; no condition. -/
import Derived.Test.YtdlpoemjgeehgaaPG06x0
import Derived.Test.YtdlpoemjgeehgaaPG06x1
import Derived.Test.YtdlpoemjgeehgaaPG06x2
import Derived.Test.YtdlpoemjgeehgaaPG06x3
import Derived.Test.YtdlpoemjgeehgaaPG06x4
import Derived.Test.YtdlpoemjgeehgaaPG06x5
import Derived.Test.YtdlpoemjgeehgaaPG06x6
import Derived.Test.YtdlpoemjgeehgaaPG06x7
import Derived.Test.YtdlpoemjgeehgaaPG06x8
import Derived.Test.YtdlpoemjgeehgaaPG06x9
import Derived.Test.YtdlpoemjgeehgaaPG06x10
import Derived.Test.YtdlpoemjgeehgaaPG06x11
import Derived.Test.YtdlpoemjgeehgaaPG06x12
import Derived.Test.YtdlpoemjgeehgaaPG06x13
import Derived.Test.YtdlpoemjgeehgaaPG06x14
import Derived.Test.YtdlpoemjgeehgaaPG06x15
import Derived.Test.YtdlpoemjgeehgaaPG06x16
import Derived.Test.YtdlpoemjgeehgaaPG06x17
import Derived.Test.YtdlpoemjgeehgaaHW
import Derived.Test.YtdlpoemjgeehgaaPureFieldEnds
namespace Go.Proofs.Ytdlpoemjgeehgaa.PG06
open Go.RowKit Go.Proofs.YtdlpoemjgeehgaaW.PrintWords Go.Proofs.YtdlpoemjgeehgaaW.PrintLast Go.Proofs.YtdlpoemjgeehgaaW.PrintMore Go.Proofs.YtdlpoemjgeehgaaHW
attribute [local go_sem] max2_int min2_int max_two min_two max_three min_three max_four min_four
set_option linter.unusedVariables false
set_option linter.unusedSimpArgs false
theorem halyardlaw06_FieldEnds.run (a0 : Int) (a1_0 a1_1 : Bool) (a2 a3 : ByteArray) (a4 : Int) (w : World)
    (_l0 : 0 ≤ a0) (_u0 : a0 ≤ 65535) (h2 : a2.size ≤ 140737488351232) (h3 : a3.size ≤ 140737488351232) (_l4 : 0 ≤ a4) (_u4 : a4 ≤ 255) :
    Calls Try.prog 9 #[.int .u16 a0, .agg #[.bool a1_0, .bool a1_1], .string a2, .string a3, .int .u8 a4] w fun e w' => e = .returned (.bool true) ∧ Below w.heap.size w w' := by
  obtain ⟨k, h⟩ := Go.Proofs.Ytdlpoemjgeehgaa.Pure.FieldEnds a0 a1_0 a1_1 a2 a3 a4 _l0 _u0 h2 h3 _l4 _u4
  exact halyardlaw06_FieldEnds.calls k a0 a1_0 a1_1 a2 a3 a4 true w h

end Go.Proofs.Ytdlpoemjgeehgaa.PG06
