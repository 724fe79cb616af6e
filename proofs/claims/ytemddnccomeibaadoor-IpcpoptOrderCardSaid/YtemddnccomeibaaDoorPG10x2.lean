-- WRITTEN by wip/tools/hprint.py: the kit's print.py run over this translation, with functions proved by hand laid in. Lean checks it.
import Derived.Test.YtemddnccomeibaaDoorPG10x0
namespace Go.Proofs.YtemddnccomeibaaDoor.PG10
open Go.RowKit Go.Proofs.YtemddnccomeibaaDoorW.PrintWords Go.Proofs.YtemddnccomeibaaDoorW.PrintLast Go.Proofs.YtemddnccomeibaaDoorW.PrintMore Go.Proofs.YtemddnccomeibaaDoorHW
attribute [local go_sem] max2_int min2_int max_two min_two max_three min_three max_four min_four   -- for this text's walks alone
set_option linter.unusedVariables false
set_option linter.unusedSimpArgs false

/-! ### octet_Put32: function 24 -/
def octet_Put32.f (a0 : Int) : Option (ByteArray) := some (strOfNums ([(a0 / 16777216) % 256, (a0 / 65536) % 256, (a0 / 256) % 256, a0 % 256] : List Int))
set_option maxRecDepth 100000 in
set_option maxHeartbeats 1000000 in
theorem octet_Put32.calls (a0 : Int) (r : ByteArray) (w : World) (h : octet_Put32.f a0 = some r) :
    Calls Tryd.prog 24 #[.int .u32 a0] w fun e w' => e = .returned (.string r) ∧ Below w.heap.size w w' := by
  have huA := Tryd.underlying72
  have huS := Tryd.underlying57
  have HB := Aside0.mk (Below.refl w.heap.size w)
  obtain rfl := Option.some.inj h
  clear h
  go_enter Tryd.func24, Tryd.ntmps24
  go_wp2_with fail
  refine wp_loop_rounds 5 ?_
  rw [rounds_succ]
  go_wp2_with fail
  rw [rounds_succ]
  go_wp2_with fail
  rw [rounds_succ]
  go_wp2_with fail
  rw [rounds_succ]
  go_wp2_with fail
  have hcv : (convert 57 9 (.slice (some ⟨w.heap.size, 0, none⟩) 4 4)).run Tryd.prog (w.alloc (.cells #[.int .u8 (a0 / 16777216 % 256), .int .u8 (a0 / 65536 % 256), .int .u8 (a0 / 256 % 256), .int .u8 (a0 % 256)] 72)) = .ok (.string (strOfNums [a0 / 16777216 % 256, a0 / 65536 % 256, a0 / 256 % 256, a0 % 256])) _ :=
    hw_conv [a0 / 16777216 % 256, a0 / 65536 % 256, a0 / 256 % 256, a0 % 256] Tryd.underlying57 Tryd.underlying5 Tryd.underlying9 (by simp) (blk_new w _)
  rw [rounds_succ]
  go_wp2
  go_ret
  exact ⟨rfl, by repeat (first | (with_reducible first | exact HB.out | apply below_alloc))⟩


end Go.Proofs.YtemddnccomeibaaDoor.PG10
