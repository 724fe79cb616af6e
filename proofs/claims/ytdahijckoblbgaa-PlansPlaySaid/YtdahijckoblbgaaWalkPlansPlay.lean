/- The walk of the law halyard/halyardlaw27.PlansPlay: the call returns true, whatever the input; no condition. -/
import Derived.Test.YtdahijckoblbgaaPG27x0
import Derived.Test.YtdahijckoblbgaaHW
import Derived.Test.YtdahijckoblbgaaHPlanPlay2
namespace Go.Proofs.Ytdahijckoblbgaa.PG27
open Go.RowKit Go.Proofs.YtdahijckoblbgaaW.PrintWords Go.Proofs.YtdahijckoblbgaaW.PrintLast Go.Proofs.YtdahijckoblbgaaW.PrintMore Go.Proofs.YtdahijckoblbgaaHW
attribute [local go_sem] max2_int min2_int max_two min_two max_three min_three max_four min_four
set_option linter.unusedVariables false
set_option linter.unusedSimpArgs false
theorem halyardlaw27_PlansPlay.run (A0 : Option Addr) (c0 : Nat) (l0 : List S30) (A1 : Option Addr) (c1 : Nat) (l1 : List S47) (a2 : ByteArray) (a3 : Int) (w : World) (hr0 : Kd.C k30 w A0 l0.length l0) (hc0 : l0.length ≤ c0) (hI0 : l0.length ≤ maxLen ∧ l0.length * Try.prog.bytesOf 30 ≤ 140737488351232 ∧ ∀ x ∈ l0, x.f0.size ≤ 140737488351232 ∧ (Lit.int .i64 x.f1).wf = true)
    (hr1 : Kd.C k47 w A1 l1.length l1) (hc1 : l1.length ≤ c1) (hI1 : l1.length ≤ maxLen ∧ l1.length * Try.prog.bytesOf 47 ≤ 140737488351232 ∧ ∀ x ∈ l1, (Lit.int .i64 x.f0).wf = true ∧ x.f1.f0.size ≤ 140737488351232 ∧ (Lit.int .i64 x.f1.f1).wf = true)
    (hz2 : a2.size ≤ 140737488351232) (_l3 : -9223372036854775808 ≤ a3) (_u3 : a3 ≤ 9223372036854775807) :
    Calls Try.prog 5 #[.slice A0 l0.length c0, .slice A1 l1.length c1, .string a2, .int .i64 a3] w fun e w' => e = .returned (.bool true) ∧ Below w.heap.size w w' :=
  Go.Proofs.YtdahijckoblbgaaHVP.PlansPlay_run A0 A1 c0 c1 l0 l1 a2 a3 w hr0 hc0 hr1 hc1 ⟨fun x hx => (hI0.2.2 x hx).1, fun x hx => (hI1.2.2 x hx).2.1, hz2⟩

end Go.Proofs.Ytdahijckoblbgaa.PG27
