/- The walk of the law halyard/halyardlaw18.PapBack: the call returns true, whatever the input; no condition. -/
import Derived.Test.YtdlpoemjgeehgaaPG18x0
import Derived.Test.YtdlpoemjgeehgaaPG18x1
import Derived.Test.YtdlpoemjgeehgaaPG18x2
import Derived.Test.YtdlpoemjgeehgaaPG18x3
import Derived.Test.YtdlpoemjgeehgaaPG18x4
import Derived.Test.YtdlpoemjgeehgaaPG18x5
import Derived.Test.YtdlpoemjgeehgaaPG18x6
import Derived.Test.YtdlpoemjgeehgaaPG18x7
import Derived.Test.YtdlpoemjgeehgaaPG18x8
import Derived.Test.YtdlpoemjgeehgaaPG18x9
import Derived.Test.YtdlpoemjgeehgaaPG18x10
import Derived.Test.YtdlpoemjgeehgaaPG18x11
import Derived.Test.YtdlpoemjgeehgaaPG18x12
import Derived.Test.YtdlpoemjgeehgaaPG18x13
import Derived.Test.YtdlpoemjgeehgaaPG18x14
import Derived.Test.YtdlpoemjgeehgaaPG18x15
import Derived.Test.YtdlpoemjgeehgaaPG18x16
import Derived.Test.YtdlpoemjgeehgaaPG18x17
import Derived.Test.YtdlpoemjgeehgaaPG18x18
import Derived.Test.YtdlpoemjgeehgaaPG18x19
import Derived.Test.YtdlpoemjgeehgaaPG18x20
import Derived.Test.YtdlpoemjgeehgaaPG18x21
import Derived.Test.YtdlpoemjgeehgaaPG18x22
import Derived.Test.YtdlpoemjgeehgaaPG18x23
import Derived.Test.YtdlpoemjgeehgaaPG18x24
import Derived.Test.YtdlpoemjgeehgaaPG18x25
import Derived.Test.YtdlpoemjgeehgaaHW
import Derived.Test.YtdlpoemjgeehgaaPurePapBack
namespace Go.Proofs.Ytdlpoemjgeehgaa.PG18
open Go.RowKit Go.Proofs.YtdlpoemjgeehgaaW.PrintWords Go.Proofs.YtdlpoemjgeehgaaW.PrintLast Go.Proofs.YtdlpoemjgeehgaaW.PrintMore Go.Proofs.YtdlpoemjgeehgaaHW
attribute [local go_sem] max2_int min2_int max_two min_two max_three min_three max_four min_four
set_option linter.unusedVariables false
set_option linter.unusedSimpArgs false
theorem halyardlaw18_PapBack.run (a0 : Int) (a1 a2 : ByteArray) (a3 : Bool) (a4_0 a4_1 : Int) (a4_2 : ByteArray) (w : World)
    (_l0 : 0 ≤ a0) (_u0 : a0 ≤ 255) (h1 : a1.size ≤ 140737488351232) (h2 : a2.size ≤ 140737488351232) (_l4 : 0 ≤ a4_0) (_u4 : a4_0 ≤ 255) (_l5 : 0 ≤ a4_1) (_u5 : a4_1 ≤ 255) (h3 : a4_2.size ≤ 140737488351232) :
    Calls Try.prog 5 #[.int .u8 a0, .string a1, .string a2, .bool a3, .agg #[.int .u8 a4_0, .int .u8 a4_1, .string a4_2]] w fun e w' => e = .returned (.bool true) ∧ Below w.heap.size w w' := by
  obtain ⟨k, h⟩ := Go.Proofs.Ytdlpoemjgeehgaa.Pure.PapBack a0 a1 a2 a3 a4_0 a4_1 a4_2 h1 h2 h3
  exact halyardlaw18_PapBack.calls k a0 a1 a2 a3 a4_0 a4_1 a4_2 true w h

end Go.Proofs.Ytdlpoemjgeehgaa.PG18
