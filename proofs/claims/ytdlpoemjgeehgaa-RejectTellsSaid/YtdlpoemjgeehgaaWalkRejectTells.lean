/- The walk of the law halyard/halyardlaw11.RejectTells: the call returns true, whatever the input; no condition. -/
import Derived.Test.YtdlpoemjgeehgaaPG11Tx0
import Derived.Test.YtdlpoemjgeehgaaPG11Tx1
import Derived.Test.YtdlpoemjgeehgaaPG11Tx2
import Derived.Test.YtdlpoemjgeehgaaPG11Tx3
import Derived.Test.YtdlpoemjgeehgaaPG11Tx4
import Derived.Test.YtdlpoemjgeehgaaPG11Tx5
import Derived.Test.YtdlpoemjgeehgaaPG11Tx6
import Derived.Test.YtdlpoemjgeehgaaPG11Tx7
import Derived.Test.YtdlpoemjgeehgaaPG11Tx8
import Derived.Test.YtdlpoemjgeehgaaPG11Tx9
import Derived.Test.YtdlpoemjgeehgaaPG11Tx10
import Derived.Test.YtdlpoemjgeehgaaPG11Tx11
import Derived.Test.YtdlpoemjgeehgaaPG11Tx12
import Derived.Test.YtdlpoemjgeehgaaPG11Tx13
import Derived.Test.YtdlpoemjgeehgaaPG11Tx14
import Derived.Test.YtdlpoemjgeehgaaPG11Tx15
import Derived.Test.YtdlpoemjgeehgaaPG11Tx16
import Derived.Test.YtdlpoemjgeehgaaPG11Tx17
import Derived.Test.YtdlpoemjgeehgaaPG11Tx18
import Derived.Test.YtdlpoemjgeehgaaPG11Tx19
import Derived.Test.YtdlpoemjgeehgaaPG11Tx20
import Derived.Test.YtdlpoemjgeehgaaPG11Tx21
import Derived.Test.YtdlpoemjgeehgaaPG11Tx22
import Derived.Test.YtdlpoemjgeehgaaPG11Tx23
import Derived.Test.YtdlpoemjgeehgaaPG11Tx24
import Derived.Test.YtdlpoemjgeehgaaHW
import Derived.Test.YtdlpoemjgeehgaaPureRejectTells
namespace Go.Proofs.Ytdlpoemjgeehgaa.PG11T
open Go.RowKit Go.Proofs.YtdlpoemjgeehgaaW.PrintWords Go.Proofs.YtdlpoemjgeehgaaW.PrintLast Go.Proofs.YtdlpoemjgeehgaaW.PrintMore Go.Proofs.YtdlpoemjgeehgaaHW
attribute [local go_sem] max2_int min2_int max_two min_two max_three min_three max_four min_four
set_option linter.unusedVariables false
set_option linter.unusedSimpArgs false
theorem halyardlaw11_RejectTells.run (a0 : Int) (a1_0 a1_1 : Int) (a1_2 : ByteArray) (a2 : Int) (a3 : ByteArray) (a4 a5 : Int) (w : World)
    (_l0 : 0 ≤ a0) (_u0 : a0 ≤ 255) (_l1 : 0 ≤ a1_0) (_u1 : a1_0 ≤ 255) (_l2 : 0 ≤ a1_1) (_u2 : a1_1 ≤ 255) (h1 : a1_2.size ≤ 140737488351232) (_l3 : 0 ≤ a2) (_u3 : a2 ≤ 65535) (h2 : a3.size ≤ 140737488351232) (_l4 : -9223372036854775808 ≤ a4) (_u4 : a4 ≤ 9223372036854775807) (_l5 : 0 ≤ a5) (_u5 : a5 ≤ 255) :
    Calls Try.prog 12 #[.int .u8 a0, .agg #[.int .u8 a1_0, .int .u8 a1_1, .string a1_2], .int .u16 a2, .string a3, .int .i64 a4, .int .u8 a5] w fun e w' => e = .returned (.bool true) ∧ Below w.heap.size w w' := by
  obtain ⟨k, h⟩ := Go.Proofs.Ytdlpoemjgeehgaa.Pure.RejectTells a0 a1_0 a1_1 a1_2 a2 a3 a4 a5 _l3 _u3 h1 h2
  exact halyardlaw11_RejectTells.calls k a0 a1_0 a1_1 a1_2 a2 a3 a4 a5 true w h

end Go.Proofs.Ytdlpoemjgeehgaa.PG11T
