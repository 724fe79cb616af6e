/- The walk of the law halyard/halyardlaw11.RejectFits: the call returns true, whatever the input; no condition. -/
import Derived.Test.YtdlpoemjgeehgaaPG11x0
import Derived.Test.YtdlpoemjgeehgaaPG11x1
import Derived.Test.YtdlpoemjgeehgaaPG11x2
import Derived.Test.YtdlpoemjgeehgaaPG11x3
import Derived.Test.YtdlpoemjgeehgaaPG11x4
import Derived.Test.YtdlpoemjgeehgaaPG11x5
import Derived.Test.YtdlpoemjgeehgaaPG11x6
import Derived.Test.YtdlpoemjgeehgaaPG11x7
import Derived.Test.YtdlpoemjgeehgaaPG11x8
import Derived.Test.YtdlpoemjgeehgaaPG11x9
import Derived.Test.YtdlpoemjgeehgaaPG11x10
import Derived.Test.YtdlpoemjgeehgaaPG11x11
import Derived.Test.YtdlpoemjgeehgaaPG11x12
import Derived.Test.YtdlpoemjgeehgaaPG11x13
import Derived.Test.YtdlpoemjgeehgaaPG11x14
import Derived.Test.YtdlpoemjgeehgaaPG11x15
import Derived.Test.YtdlpoemjgeehgaaPG11x16
import Derived.Test.YtdlpoemjgeehgaaPG11x17
import Derived.Test.YtdlpoemjgeehgaaPG11x18
import Derived.Test.YtdlpoemjgeehgaaPG11x19
import Derived.Test.YtdlpoemjgeehgaaPG11x20
import Derived.Test.YtdlpoemjgeehgaaPG11x21
import Derived.Test.YtdlpoemjgeehgaaPG11x22
import Derived.Test.YtdlpoemjgeehgaaPG11x23
import Derived.Test.YtdlpoemjgeehgaaPG11x24
import Derived.Test.YtdlpoemjgeehgaaPG11x25
import Derived.Test.YtdlpoemjgeehgaaPG11x26
import Derived.Test.YtdlpoemjgeehgaaHW
import Derived.Test.YtdlpoemjgeehgaaPureRejectFits
namespace Go.Proofs.Ytdlpoemjgeehgaa.PG11
open Go.RowKit Go.Proofs.YtdlpoemjgeehgaaW.PrintWords Go.Proofs.YtdlpoemjgeehgaaW.PrintLast Go.Proofs.YtdlpoemjgeehgaaW.PrintMore Go.Proofs.YtdlpoemjgeehgaaHW
attribute [local go_sem] max2_int min2_int max_two min_two max_three min_three max_four min_four
set_option linter.unusedVariables false
set_option linter.unusedSimpArgs false
theorem halyardlaw11_RejectFits.run (a0 : Int) (a1_0 a1_1 : Int) (a1_2 : ByteArray) (a2 : Int) (a3 : ByteArray) (a4 : Int) (w : World)
    (_l0 : 0 ≤ a0) (_u0 : a0 ≤ 255) (_l1 : 0 ≤ a1_0) (_u1 : a1_0 ≤ 255) (_l2 : 0 ≤ a1_1) (_u2 : a1_1 ≤ 255) (h1 : a1_2.size ≤ 140737488351232) (_l3 : 0 ≤ a2) (_u3 : a2 ≤ 65535) (h2 : a3.size ≤ 140737488351232) (_l4 : 0 ≤ a4) (_u4 : a4 ≤ 65535) :
    Calls Try.prog 10 #[.int .u8 a0, .agg #[.int .u8 a1_0, .int .u8 a1_1, .string a1_2], .int .u16 a2, .string a3, .int .u16 a4] w fun e w' => e = .returned (.bool true) ∧ Below w.heap.size w w' := by
  obtain ⟨k, h⟩ := Go.Proofs.Ytdlpoemjgeehgaa.Pure.RejectFits a0 a1_0 a1_1 a1_2 a2 a3 a4 h1 h2 _l4 _u4
  exact halyardlaw11_RejectFits.calls k a0 a1_0 a1_1 a1_2 a2 a3 a4 true w h

end Go.Proofs.Ytdlpoemjgeehgaa.PG11
