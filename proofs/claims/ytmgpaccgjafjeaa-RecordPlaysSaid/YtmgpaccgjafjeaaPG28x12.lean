-- WRITTEN by wip/tools/hprint.py: the kit's print.py run over this translation, with functions proved by hand laid in. Lean checks it.
import Derived.Test.YtmgpaccgjafjeaaPG28x0
import Derived.Test.YtmgpaccgjafjeaaPG28x11
namespace Go.Proofs.Ytmgpaccgjafjeaa.PG28
open Go.RowKit Go.Proofs.YtmgpaccgjafjeaaW.PrintWords Go.Proofs.YtmgpaccgjafjeaaW.PrintLast Go.Proofs.YtmgpaccgjafjeaaW.PrintMore Go.Proofs.YtmgpaccgjafjeaaHW
attribute [local go_sem] max2_int min2_int max_two min_two max_three min_three max_four min_four   -- for this text's walks alone
set_option linter.unusedVariables false
set_option linter.unusedSimpArgs false

/-! ### octet_Get32: function 46 -/
def octet_Get32.f (a0 : ByteArray) : Option (Int × Int) := if (a0.size : Int) < 4 then some (0, 6) else if (a0.size : Int) > 4 then some (0, 7) else some (16777216 * bt a0 0 + 65536 * bt a0 1 + 256 * bt a0 2 + bt a0 3, 0)
theorem octet_number.four (a0 : ByteArray) (h : a0.size = 4) : octet_number.f 6 a0 4 = some (16777216 * bt a0 0 + 65536 * bt a0 1 + 256 * bt a0 2 + bt a0 3, 0) := by
  have b0 := bt_range a0 0
  have b1 := bt_range a0 1
  have b2 := bt_range a0 2
  have b3 := bt_range a0 3
  have step : ∀ x y : Int, 0 ≤ x → x < 16777216 → 0 ≤ y → y < 256 → Go.bits .or .u32 (x * 256 % 4294967296) (y % 4294967296) = 256 * x + y := fun x y h0 h1 h2 h3 => by
    rw [show x * 256 % 4294967296 = x * 256 from by omega, show y % 4294967296 = y from by omega,
      Go.bits_join .u32 32 (by decide) (fun n h0 h1 => by rw [IntKind.wrap_u32]; omega) 8 _ _ (by omega) (by omega) (by omega) h2 (by omega) (by omega)]; omega
  have e0 : wrap64 (0 + 1) = 1 := by unfold wrap64; omega
  have e1 : wrap64 (1 + 1) = 2 := by unfold wrap64; omega
  have e2 : wrap64 (2 + 1) = 3 := by unfold wrap64; omega
  have e3 : wrap64 (3 + 1) = 4 := by unfold wrap64; omega
  unfold octet_number.f
  rw [if_neg (by omega), if_neg (by omega)]
  simp only [octet_number.l0, h]
  rw [if_pos (by omega), if_pos (by omega), if_pos (by omega), e0, step 0 (bt a0 0) (by omega) (by omega) (by omega) (by omega),
    if_pos (by omega), if_pos (by omega), if_pos (by omega), e1, step (256 * 0 + bt a0 0) (bt a0 1) (by omega) (by omega) (by omega) (by omega),
    if_pos (by omega), if_pos (by omega), if_pos (by omega), e2, step (256 * (256 * 0 + bt a0 0) + bt a0 1) (bt a0 2) (by omega) (by omega) (by omega) (by omega),
    if_pos (by omega), if_pos (by omega), if_pos (by omega), e3, step (256 * (256 * (256 * 0 + bt a0 0) + bt a0 1) + bt a0 2) (bt a0 3) (by omega) (by omega) (by omega) (by omega), if_neg (by omega)]
  simp only [Option.some.injEq, Prod.mk.injEq, and_true]
  omega
theorem octet_Get32.calls (a0 : ByteArray) (r1 : Int) (r2 : Int) (w : World) (h : octet_Get32.f a0 = some (r1, r2)) :
    Calls Try.prog 46 #[.string a0] w fun e w' => e = .returned (.tuple #[.int .u32 r1, .int .i64 r2]) ∧ Drawn0 w w' := by
  have key : octet_number.f 6 a0 4 = some (r1, r2) := by
    unfold octet_Get32.f at h
    by_cases c1 : (a0.size : Int) < 4
    · rw [if_pos c1] at h
      rw [← h]; unfold octet_number.f; rw [if_pos c1]
    rw [if_neg c1] at h
    by_cases c2 : (a0.size : Int) > 4
    · rw [if_pos c2] at h
      rw [← h]; unfold octet_number.f; rw [if_neg c1, if_pos c2]
    rw [if_neg c2] at h
    rw [← h]
    exact octet_number.four a0 (by omega)
  have A2 := Aside0.mk key
  clear key h
  go_enter Try.func46, Try.ntmps46
  go_wp2_with (go_at_call 75; refine (octet_number.calls 6 a0 4 r1 r2 _ A2.out).mono ?_; rintro e w' ⟨rfl, ⟨nd, rfl⟩⟩)
  go_ret2
  exact ⟨rfl, by repeat (first | exact Drawn0.refl _ | apply Drawn0.step)⟩


end Go.Proofs.Ytmgpaccgjafjeaa.PG28
