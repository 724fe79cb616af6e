/- The walk of the law halyard/halyardlaw26.PoolAll: the call returns true, whatever the input; no condition. -/
import Derived.Test.YtjpnebhhpogebaaPG26x0
import Derived.Test.YtjpnebhhpogebaaPG26x1
import Derived.Test.YtjpnebhhpogebaaPG26x2
import Derived.Test.YtjpnebhhpogebaaPG26x3
import Derived.Test.YtjpnebhhpogebaaPG26x4
import Derived.Test.YtjpnebhhpogebaaPG26x5
import Derived.Test.YtjpnebhhpogebaaPG26x6
import Derived.Test.YtjpnebhhpogebaaPG26x7
import Derived.Test.YtjpnebhhpogebaaPG26x8
import Derived.Test.YtjpnebhhpogebaaPG26x9
import Derived.Test.YtjpnebhhpogebaaPG26x10
import Derived.Test.YtjpnebhhpogebaaPG26x11
import Derived.Test.YtjpnebhhpogebaaPG26x12
import Derived.Test.YtjpnebhhpogebaaHW
import Derived.Test.YtjpnebhhpogebaaHPoolAll
namespace Go.Proofs.Ytjpnebhhpogebaa.PG26
open Go.RowKit Go.Proofs.YtjpnebhhpogebaaW.PrintWords Go.Proofs.YtjpnebhhpogebaaW.PrintLast Go.Proofs.YtjpnebhhpogebaaW.PrintMore Go.Proofs.YtjpnebhhpogebaaHW
attribute [local go_sem] max2_int min2_int max_two min_two max_three min_three max_four min_four
set_option linter.unusedVariables false
set_option linter.unusedSimpArgs false
theorem halyardlaw26_PoolAll.run (a0 a1 : Int) (A2 : Option Addr) (c2 : Nat) (l2 : List Int) (w : World) (_l0 : 0 ≤ a0) (_u0 : a0 ≤ 4294967295) (_l1 : 0 ≤ a1) (_u1 : a1 ≤ 65535)
    (hr2 : Kd.C (Kd.int .u16) w A2 l2.length l2) (hc2 : l2.length ≤ c2) (hI2 : l2.length ≤ maxLen ∧ l2.length * Try.prog.bytesOf 23 ≤ 140737488351232 ∧ ∀ x ∈ l2, (Lit.int .u16 x).wf = true) :
    Calls Try.prog 3 #[.int .u32 a0, .int .u16 a1, .slice A2 l2.length c2] w fun e w' => e = .returned (.bool true) ∧ Below w.heap.size w w' := by
  have hI : ∀ x ∈ l2, 0 ≤ x ∧ x ≤ 65535 := fun x hx => by
    have := hI2.2.2 x hx
    simp only [Lit.wf, Bool.and_eq_true, decide_eq_true_eq] at this
    exact this
  have hm : (l2.length : Int) ≤ 9223372036854775807 := by have := hr2.2.1; omega
  by_cases hb : 1 ≤ a0 ∧ a0 + (1 + a1 % 1024) ≤ 4294967296
  · by_cases h60 : 60 < l2.length
    · exact Go.Proofs.YtjpnebhhpogebaaHPool.PoolAll_long a0 a1 A2 c2 l2.length w _l0 _u0 _l1 _u1 hm hb h60
    · exact Go.Proofs.YtjpnebhhpogebaaHPool.PoolAll_yes a0 a1 A2 c2 l2 w _l0 _u0 _l1 _u1 hr2 hI hb (by omega)
  · exact Go.Proofs.YtjpnebhhpogebaaHPool.PoolAll_no a0 a1 A2 c2 l2.length w _l0 _u0 _l1 _u1 hm hb

end Go.Proofs.Ytjpnebhhpogebaa.PG26
