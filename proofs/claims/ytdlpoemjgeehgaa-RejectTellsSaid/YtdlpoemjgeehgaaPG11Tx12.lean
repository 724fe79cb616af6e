-- WRITTEN by wip/tools/hprint.py: the kit's print.py run over this translation, with functions proved by hand laid in. Lean checks it.
import Derived.Test.YtdlpoemjgeehgaaPG11Tx0
import Derived.Test.YtdlpoemjgeehgaaPG11Tx11
namespace Go.Proofs.Ytdlpoemjgeehgaa.PG11T
open Go.RowKit Go.Proofs.YtdlpoemjgeehgaaW.PrintWords Go.Proofs.YtdlpoemjgeehgaaW.PrintLast Go.Proofs.YtdlpoemjgeehgaaW.PrintMore Go.Proofs.YtdlpoemjgeehgaaHW
attribute [local go_sem] max2_int min2_int max_two min_two max_three min_three max_four min_four   -- for this text's walks alone
set_option linter.unusedVariables false
set_option linter.unusedSimpArgs false

/-! ### octet_Get16: function 78 -/
def octet_Get16.f (a0 : ByteArray) : Option (Int × Int) := if (a0.size : Int) < 2 then some (0, 6) else if (a0.size : Int) > 2 then some (0, 7) else some (256 * bt a0 0 + bt a0 1, 0)
theorem octet_or8 (x y : Int) (hx0 : 0 ≤ x) (hx1 : x < 16777216) (hy0 : 0 ≤ y) (hy1 : y < 256) : Go.bits .or .u32 (x * 256) y = x * 256 + y :=
  Go.bits_join .u32 32 (by decide) (fun n h0 h1 => by rw [IntKind.wrap_u32]; omega) 8 _ _ (by omega) (by omega) (by omega) hy0 (by omega) (by omega)
theorem octet_number.two (a0 : ByteArray) (h : a0.size = 2) : octet_number.f 5 a0 2 = some (256 * bt a0 0 + bt a0 1, 0) := by
  have b0 := bt_range a0 0
  have b1 := bt_range a0 1
  have e0 : wrap64 (0 + 1) = 1 := by unfold wrap64; omega
  have e1 : wrap64 (1 + 1) = 2 := by unfold wrap64; omega
  have f0 : Go.bits .or .u32 (0 * 256 % 4294967296) (bt a0 0 % 4294967296) = bt a0 0 := by
    rw [show (0 * 256 % 4294967296 : Int) = 0 * 256 from rfl, show bt a0 0 % 4294967296 = bt a0 0 from by omega, octet_or8 0 _ (by omega) (by omega) (by omega) (by omega)]; omega
  have f1 : Go.bits .or .u32 (bt a0 0 * 256 % 4294967296) (bt a0 1 % 4294967296) = 256 * bt a0 0 + bt a0 1 := by
    rw [show bt a0 0 * 256 % 4294967296 = bt a0 0 * 256 from by omega, show bt a0 1 % 4294967296 = bt a0 1 from by omega, octet_or8 _ _ (by omega) (by omega) (by omega) (by omega)]; omega
  unfold octet_number.f
  rw [if_neg (by omega), if_neg (by omega)]
  simp only [octet_number.l0, h]
  rw [if_pos (by omega), if_pos (by omega), if_pos (by omega), e0, f0, if_pos (by omega), if_pos (by omega), if_pos (by omega), e1, f1, if_neg (by omega)]
theorem octet_Get16.calls (a0 : ByteArray) (r1 : Int) (r2 : Int) (w : World) (h : octet_Get16.f a0 = some (r1, r2)) :
    Calls Try.prog 78 #[.string a0] w fun e w' => e = .returned (.tuple #[.int .u16 r1, .int .i64 r2]) ∧ Drawn0 w w' := by
  have key : ∃ v, octet_number.f 5 a0 2 = some (v, r2) ∧ IntKind.u16.wrap v = r1 := by
    unfold octet_Get16.f at h
    by_cases c1 : (a0.size : Int) < 2
    · rw [if_pos c1] at h
      simp only [Option.some.injEq, Prod.mk.injEq] at h
      obtain ⟨rfl, rfl⟩ := h
      exact ⟨0, by unfold octet_number.f; rw [if_pos c1], rfl⟩
    rw [if_neg c1] at h
    by_cases c2 : (a0.size : Int) > 2
    · rw [if_pos c2] at h
      simp only [Option.some.injEq, Prod.mk.injEq] at h
      obtain ⟨rfl, rfl⟩ := h
      exact ⟨0, by unfold octet_number.f; rw [if_neg c1, if_pos c2], rfl⟩
    rw [if_neg c2] at h
    simp only [Option.some.injEq, Prod.mk.injEq] at h
    obtain ⟨rfl, rfl⟩ := h
    have b0 := bt_range a0 0
    have b1 := bt_range a0 1
    exact ⟨_, octet_number.two a0 (by omega), by rw [show ∀ n : Int, IntKind.u16.wrap n = n % 65536 from fun n => by simp [IntKind.wrap, IntKind.bits, IntKind.signed]]; omega⟩
  obtain ⟨v, hv, rfl⟩ := key
  have A2 := Aside0.mk hv
  clear hv h
  go_enter Try.func78, Try.ntmps78
  go_wp2_with (go_at_call 98; refine (octet_number.calls 5 a0 2 v r2 _ A2.out).mono ?_; rintro e w' ⟨rfl, ⟨nd, rfl⟩⟩)
  go_ret2
  exact ⟨rfl, by repeat (first | exact Drawn0.refl _ | apply Drawn0.step)⟩


end Go.Proofs.Ytdlpoemjgeehgaa.PG11T
