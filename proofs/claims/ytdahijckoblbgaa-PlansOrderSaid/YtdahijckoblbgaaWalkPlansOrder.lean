/- The walk of the law halyard/halyardlaw27.PlansOrder: the call returns true, whatever the input; no condition. -/
import Derived.Test.YtdahijckoblbgaaPG27x0
import Derived.Test.YtdahijckoblbgaaHW
import Derived.Test.YtdahijckoblbgaaHPlanOrd2
namespace Go.Proofs.Ytdahijckoblbgaa.PG27
open Go.RowKit Go.Proofs.YtdahijckoblbgaaW.PrintWords Go.Proofs.YtdahijckoblbgaaW.PrintLast Go.Proofs.YtdahijckoblbgaaW.PrintMore Go.Proofs.YtdahijckoblbgaaHW
attribute [local go_sem] max2_int min2_int max_two min_two max_three min_three max_four min_four
set_option linter.unusedVariables false
set_option linter.unusedSimpArgs false
theorem halyardlaw27_PlansOrder.run (A0 : Option Addr) (c0 : Nat) (l0 : List S30) (a1 : Int) (w : World) (hr0 : Kd.C k30 w A0 l0.length l0) (hc0 : l0.length ≤ c0) (hI0 : l0.length ≤ maxLen ∧ l0.length * Try.prog.bytesOf 30 ≤ 140737488351232 ∧ ∀ x ∈ l0, x.f0.size ≤ 140737488351232 ∧ (Lit.int .i64 x.f1).wf = true)
    (_l1 : 0 ≤ a1) (_u1 : a1 ≤ 255) :
    Calls Try.prog 4 #[.slice A0 l0.length c0, .int .u8 a1] w fun e w' => e = .returned (.bool true) ∧ Below w.heap.size w w' :=
  Go.Proofs.YtdahijckoblbgaaHVP.PlansOrder_run A0 c0 l0 a1 w hr0 hc0 (fun x hx => (hI0.2.2 x hx).1) _l1 _u1

end Go.Proofs.Ytdahijckoblbgaa.PG27
