/- The walk of the law halyard/halyardlaw28.RecordBoth: the call returns true, whatever the input; no condition. -/
import Derived.Test.YtmgpaccgjafjeaaPG28x0
import Derived.Test.YtmgpaccgjafjeaaHW
import Derived.Test.YtmgpaccgjafjeaaHRecBo2
namespace Go.Proofs.Ytmgpaccgjafjeaa.PG28
open Go.RowKit Go.Proofs.YtmgpaccgjafjeaaW.PrintWords Go.Proofs.YtmgpaccgjafjeaaW.PrintLast Go.Proofs.YtmgpaccgjafjeaaW.PrintMore Go.Proofs.YtmgpaccgjafjeaaHW
attribute [local go_sem] max2_int min2_int max_two min_two max_three min_three max_four min_four
set_option linter.unusedVariables false
set_option linter.unusedSimpArgs false
theorem halyardlaw28_RecordBoth.run (a0 : Int) (A1 : Option Addr) (c1 : Nat) (l1 : List S60) (w : World) (_l0 : 0 ≤ a0) (_u0 : a0 ≤ 255) (hr1 : Kd.C k60 w A1 l1.length l1) (hc1 : l1.length ≤ c1)
    (hI1 : l1.length ≤ maxLen ∧ l1.length * Try.prog.bytesOf 60 ≤ 140737488351232 ∧ ∀ x ∈ l1, (Lit.int .i64 x.f0).wf = true ∧ x.f1.f0.size ≤ 140737488351232 ∧ x.f1.f1.size ≤ 140737488351232 ∧ x.f1.f2.size ≤ 140737488351232 ∧ (Lit.int .u32 x.f1.f3).wf = true ∧ True) :
    Calls Try.prog 5 #[.int .u8 a0, .slice A1 l1.length c1] w fun e w' => e = .returned (.bool true) ∧ Below w.heap.size w w' :=
  Go.Proofs.YtmgpaccgjafjeaaHVR.RecordBoth_run a0 A1 c1 l1 w _l0 _u0 hr1 hc1 (fun x hx => by
    obtain ⟨_, h1, _, _, h4, _⟩ := hI1.2.2 x hx
    simp only [Lit.wf, Bool.and_eq_true, decide_eq_true_eq] at h4
    have h5 : 0 ≤ x.f1.f3 ∧ x.f1.f3 ≤ 4294967295 := h4
    exact ⟨h1, h5.1, by omega⟩)

end Go.Proofs.Ytmgpaccgjafjeaa.PG28
