/- The walk of the law halyard/halyardlaw01.OctetSplits: the call returns true, whatever the input; no condition. -/
import Derived.Test.YtdojpjiiihmdoaaPG01Rx0
import Derived.Test.YtdojpjiiihmdoaaPG01Rx1
import Derived.Test.YtdojpjiiihmdoaaPG01Rx2
import Derived.Test.YtdojpjiiihmdoaaPG01Rx3
import Derived.Test.YtdojpjiiihmdoaaPG01Rx4
import Derived.Test.YtdojpjiiihmdoaaPG01Rx5
import Derived.Test.YtdojpjiiihmdoaaPG01Rx6
import Derived.Test.YtdojpjiiihmdoaaPG01Rx7
import Derived.Test.YtdojpjiiihmdoaaPG01Rx8
import Derived.Test.YtdojpjiiihmdoaaPG01Rx9
import Derived.Test.YtdojpjiiihmdoaaPG01Rx10
import Derived.Test.YtdojpjiiihmdoaaPG01Rx11
import Derived.Test.YtdojpjiiihmdoaaPG01Rx12
import Derived.Test.YtdojpjiiihmdoaaHW
import Derived.Test.YtdojpjiiihmdoaaPureOctetSplits
namespace Go.Proofs.Ytdojpjiiihmdoaa.PG01R
open Go.RowKit Go.Proofs.YtdojpjiiihmdoaaW.PrintWords Go.Proofs.YtdojpjiiihmdoaaW.PrintLast Go.Proofs.YtdojpjiiihmdoaaW.PrintMore Go.Proofs.YtdojpjiiihmdoaaHW
attribute [local go_sem] max2_int min2_int max_two min_two max_three min_three max_four min_four
set_option linter.unusedVariables false
set_option linter.unusedSimpArgs false
theorem halyardlaw01_OctetSplits.run (A0 : Option Addr) (c0 : Nat) (l0 : List ByteArray) (A1 : Option Addr) (c1 : Nat) (l1 : List ByteArray) (a2 : ByteArray) (w : World)
    (hr0 : Kd.C Kd.string w A0 l0.length l0) (hc0 : l0.length ≤ c0) (hI0 : l0.length ≤ maxLen ∧ l0.length * Try.prog.bytesOf 9 ≤ 140737488351232 ∧ ∀ x ∈ l0, x.size ≤ 140737488351232)
    (hr1 : Kd.C Kd.string w A1 l1.length l1) (hc1 : l1.length ≤ c1) (hI1 : l1.length ≤ maxLen ∧ l1.length * Try.prog.bytesOf 9 ≤ 140737488351232 ∧ ∀ x ∈ l1, x.size ≤ 140737488351232) (_z2 : a2.size ≤ 140737488351232) :
    Calls Try.prog 13 #[.slice A0 l0.length c0, .slice A1 l1.length c1, .string a2] w fun e w' => e = .returned (.bool true) ∧ Below w.heap.size w w' := by
  obtain ⟨k, h⟩ := Go.Proofs.Ytdojpjiiihmdoaa.Pure.OctetSplits l0 l1 a2 hI0.2.2 hI1.2.2
  exact halyardlaw01_OctetSplits.calls k A0 c0 l0 A1 c1 l1 a2 true w hr0 hc0 hr1 hc1 h

end Go.Proofs.Ytdojpjiiihmdoaa.PG01R
