/- The walk of the law halyard/halyardlaw28.RecordBytes: the call returns true, whatever the input; no condition. -/
import Derived.Test.YtmgpaccgjafjeaaPG28x0
import Derived.Test.YtmgpaccgjafjeaaHW
import Derived.Test.YtmgpaccgjafjeaaHRecW
namespace Go.Proofs.Ytmgpaccgjafjeaa.PG28
open Go.RowKit Go.Proofs.YtmgpaccgjafjeaaW.PrintWords Go.Proofs.YtmgpaccgjafjeaaW.PrintLast Go.Proofs.YtmgpaccgjafjeaaW.PrintMore Go.Proofs.YtmgpaccgjafjeaaHW
attribute [local go_sem] max2_int min2_int max_two min_two max_three min_three max_four min_four
set_option linter.unusedVariables false
set_option linter.unusedSimpArgs false
theorem halyardlaw28_RecordBytes.run (a0_0 a0_1 a0_2 : ByteArray) (a0_3 : Int) (a0_4 : Bool) (a1_0 a1_1 a1_2 : ByteArray) (a1_3 : Int) (a1_4 : Bool) (a2 : ByteArray) (w : World)
    (h0 : a0_0.size ≤ 140737488351232) (h1 : a0_1.size ≤ 140737488351232) (h2 : a0_2.size ≤ 140737488351232) (_l0 : 0 ≤ a0_3) (_u0 : a0_3 ≤ 4294967295) (h3 : a1_0.size ≤ 140737488351232) (h4 : a1_1.size ≤ 140737488351232) (h5 : a1_2.size ≤ 140737488351232) (_l1 : 0 ≤ a1_3) (_u1 : a1_3 ≤ 4294967295) (h6 : a2.size ≤ 140737488351232) :
    Calls Try.prog 3 #[.agg #[.string a0_0, .string a0_1, .string a0_2, .int .u32 a0_3, .bool a0_4], .agg #[.string a1_0, .string a1_1, .string a1_2, .int .u32 a1_3, .bool a1_4], .string a2] w fun e w' => e = .returned (.bool true) ∧ Below w.heap.size w w' :=
  Go.Proofs.YtmgpaccgjafjeaaHVR.RecordBytes_run ⟨a0_0, a0_1, a0_2, a0_3, a0_4⟩ ⟨a1_0, a1_1, a1_2, a1_3, a1_4⟩ a2 w h6 ⟨_l0, by show a0_3 < _; omega⟩ ⟨_l1, by show a1_3 < _; omega⟩

end Go.Proofs.Ytmgpaccgjafjeaa.PG28
