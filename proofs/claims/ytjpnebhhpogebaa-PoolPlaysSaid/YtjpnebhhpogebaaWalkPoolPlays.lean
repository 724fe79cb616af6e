/- The walk of the law halyard/halyardlaw26.PoolPlays: the call returns true, whatever the input; no condition. -/
import Derived.Test.YtjpnebhhpogebaaPG26x0
import Derived.Test.YtjpnebhhpogebaaPG26x3
import Derived.Test.YtjpnebhhpogebaaPG26x5
import Derived.Test.YtjpnebhhpogebaaHW
import Derived.Test.YtjpnebhhpogebaaHPoolPlays
namespace Go.Proofs.Ytjpnebhhpogebaa.PG26
open Go.RowKit Go.Proofs.YtjpnebhhpogebaaW.PrintWords Go.Proofs.YtjpnebhhpogebaaW.PrintLast Go.Proofs.YtjpnebhhpogebaaW.PrintMore Go.Proofs.YtjpnebhhpogebaaHW
attribute [local go_sem] max2_int min2_int max_two min_two max_three min_three max_four min_four
set_option linter.unusedVariables false
set_option linter.unusedSimpArgs false
theorem halyardlaw26_PoolPlays.run (a0 a1 : Int) (A2 : Option Addr) (c2 : Nat) (l2 : List S41) (a3 : Int) (w : World) (_l0 : 0 ≤ a0) (_u0 : a0 ≤ 4294967295) (_l1 : -9223372036854775808 ≤ a1) (_u1 : a1 ≤ 9223372036854775807)
    (hr2 : Kd.C k41 w A2 l2.length l2) (hc2 : l2.length ≤ c2) (hI2 : l2.length ≤ maxLen ∧ l2.length * Try.prog.bytesOf 41 ≤ 140737488351232 ∧ ∀ x ∈ l2, (Lit.int .i64 x.f0).wf = true ∧ (Lit.int .u32 x.f1).wf = true ∧ True ∧ x.f3.size ≤ 140737488351232) (_l3 : 0 ≤ a3) (_u3 : a3 ≤ 4294967295) :
    Calls Try.prog 5 #[.int .u32 a0, .int .i64 a1, .slice A2 l2.length c2, .int .u32 a3] w fun e w' => e = .returned (.bool true) ∧ Below w.heap.size w w' := by
  have hI : ∀ x ∈ l2, 0 ≤ x.f1 ∧ x.f1 ≤ 4294967295 := fun x hx => by
    have := (hI2.2.2 x hx).2.1
    simp only [Lit.wf, Bool.and_eq_true, decide_eq_true_eq] at this
    exact this
  obtain ⟨b, hb, hb2⟩ := Go.Proofs.YtjpnebhhpogebaaHPool.long_val l2
  cases b with
  | true => exact Go.Proofs.YtjpnebhhpogebaaHPool.PoolPlays_long a0 a1 a3 A2 c2 l2 w hr2 hc2 hb
  | false =>
    by_cases h : 1 ≤ a1 ∧ a1 ≤ 1024 ∧ 1 ≤ a0 ∧ a0 + a1 ≤ 4294967296
    · exact Go.Proofs.YtjpnebhhpogebaaHPool.PoolPlays_yes a0 a1 a3 A2 c2 l2 w _l3 (by omega) hr2 hc2 hI h.1 h.2.1 h.2.2.1 h.2.2.2 hb (hb2 rfl)
    · exact Go.Proofs.YtjpnebhhpogebaaHPool.PoolPlays_no a0 a1 a3 A2 c2 l2 w _l0 (by omega) _l1 _u1 _l3 (by omega) hr2 hc2 h hb

end Go.Proofs.Ytjpnebhhpogebaa.PG26
