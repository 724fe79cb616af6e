-- WRITTEN by wip/tools/hprint.py: the kit's print.py run over this translation, with functions proved by hand laid in. Lean checks it.
import Derived.Test.YtdojpjiiihmdoaaPG01Lx0
import Derived.Test.YtdojpjiiihmdoaaPG01Lx1
namespace Go.Proofs.Ytdojpjiiihmdoaa.PG01L
open Go.RowKit Go.Proofs.YtdojpjiiihmdoaaW.PrintWords Go.Proofs.YtdojpjiiihmdoaaW.PrintLast Go.Proofs.YtdojpjiiihmdoaaW.PrintMore Go.Proofs.YtdojpjiiihmdoaaHW
attribute [local go_sem] max2_int min2_int max_two min_two max_three min_three max_four min_four   -- for this text's walks alone
set_option linter.unusedVariables false
set_option linter.unusedSimpArgs false

/-! ### halyardref01_Value: function 62 -/
def halyardref01_Value.l0 : Nat → ByteArray → Int → Int → Option (Int)
  | 0, _, _, _ => none
  | k + 1, x0, x3, x4 => if x4 < (x0.size : Int) then (if 0 ≤ x4 then (halyardref01_Value.l0 k x0 (IntKind.u64.wrap ((IntKind.u64.wrap (x3 * 256)) + (IntKind.u64.wrap (bt x0 x4)))) (wrap64 (x4 + 1))) else (none)) else (some x3)
def halyardref01_Value.f (k : Nat) (a0 : ByteArray) : Option (Int) := halyardref01_Value.l0 k a0 0 0
theorem halyardref01_Value.mono_l : ∀ k, (∀ y0 y1 y2, LeO (halyardref01_Value.l0 k y0 y1 y2) (halyardref01_Value.l0 (k + 1) y0 y1 y2))
  | 0 => fun _ _ _ r h => by simp [halyardref01_Value.l0] at h
  | k + 1 => by
    have ih0 := halyardref01_Value.mono_l k
    · intro y0 y1 y2
      unfold halyardref01_Value.l0
      repeat' first
      | (with_reducible exact ih0 _ _ _)
      | (with_reducible exact LeO.refl _)
      | (with_reducible exact LeO.none _)
      | (with_reducible refine LeO.ite ?_ ?_)
      | (with_reducible refine LeO.bind ?_ (fun _ => ?_))
      | exact ih0 _ _ _
      | exact LeO.none _
      | refine LeO.ite ?_ ?_
      | refine LeO.bind ?_ (fun _ => ?_)
theorem halyardref01_Value.mono : ∀ a0 k, LeO (halyardref01_Value.f k a0) (halyardref01_Value.f (k + 1) a0) := by
  intro a0 k
  have ih0 := halyardref01_Value.mono_l k
  unfold halyardref01_Value.f
  repeat' first
      | (with_reducible exact ih0 _ _ _)
      | (with_reducible exact LeO.refl _)
      | (with_reducible exact LeO.none _)
      | (with_reducible refine LeO.ite ?_ ?_)
      | (with_reducible refine LeO.bind ?_ (fun _ => ?_))
      | exact ih0 _ _ _
      | exact LeO.none _
      | refine LeO.ite ?_ ?_
      | refine LeO.bind ?_ (fun _ => ?_)
set_option maxHeartbeats 8000000 in
set_option maxRecDepth 100000 in
theorem halyardref01_Value.calls (k : Nat) (a0 : ByteArray) (r : Int) (w : World) (h : halyardref01_Value.f k a0 = some r) :
    Calls Try.prog 62 #[.string a0] w fun e w' => e = .returned (.int .u64 r) ∧ Drawn0 w w' := by
  have H : (halyardref01_Value.l0 k a0 0 0) = some r := h
  clear h
  have H' := Aside0.mk H
  clear H
  go_enter Try.func62, Try.ntmps62
  go_wp2
  go_loopg [3, 4] k (fun kq v3 v4 w' => ∃ (x3_1 : Int) (x4_1 : Int), v3 = .int .u64 x3_1 ∧ v4 = .int .i64 x4_1 ∧ Aside0 (halyardref01_Value.l0 kq a0 x3_1 x4_1 = some r) ∧ Aside0 (kq ≤ k) ∧ Drawn0 w w')
  case atStart => exact ⟨(0), (0), (by first | rfl | (simp; done) | (simp [*]; done)), (by first | rfl | (simp; done) | (simp [*]; done)), H', ⟨Nat.le_refl _⟩, by repeat (first | exact Drawn0.refl _ | apply Drawn0.step)⟩
  case round =>
    clear H'
    obtain ⟨x3_1, x4_1, rfl, rfl, HA, HK1, ⟨m1, rfl⟩⟩ := hrel
    cases gk with
    | zero => exact absurd HA.out (by simp [halyardref01_Value.l0])
    | succ k1 =>
      have H := HA.out
      clear HA
      simp only [halyardref01_Value.l0] at H
      by_cases c2 : x4_1 < (a0.size : Int)
      · rw [if_pos c2] at H
        have c2b0 : decide (x4_1 < (a0.size : Int)) = true := decide_eq_true c2
        clear c2
        by_cases c3 : 0 ≤ x4_1
        · rw [if_pos c3] at H
          have c3b0 : decide (0 ≤ x4_1) = true := decide_eq_true c3
          clear c3
          have H' := Aside0.mk H
          clear H
          have p4 : 0 ≤ (x4_1 : Int) := of_decide_eq_true (by first | (with_reducible assumption) | assumption)
          have q4 : x4_1 < (a0.size : Int) := of_decide_eq_true (by first | (with_reducible assumption) | assumption)
          have hx4 := bt_at a0 x4_1
          replace p4 := eq_true p4
          replace q4 := eq_true q4
          go_wp2
          go_roundg k1
          case measure => have := HK1.out; omega
          case rel => exact ⟨(IntKind.u64.wrap ((IntKind.u64.wrap (x3_1 * 256)) + (IntKind.u64.wrap (bt a0 x4_1)))), (wrap64 (x4_1 + 1)), (by first | rfl | (simp; done) | (simp [*]; done)), (by first | rfl | (simp; done) | (simp [*]; done)), H', ⟨by have := HK1.out; omega⟩, by repeat (first | exact Drawn0.refl _ | apply Drawn0.step)⟩
        · rw [if_neg c3] at H
          exact absurd H (by simp)
      · rw [if_neg c2] at H
        have c2b0 : decide (x4_1 < (a0.size : Int)) = false := decide_eq_false c2
        clear c2
        obtain rfl := Option.some.inj H
        go_wp2
        go_ret
        exact ⟨by first | rfl | (simp; done) | (simp [*]; done), by repeat (first | exact Drawn0.refl _ | apply Drawn0.step)⟩

/-! ### halyardref01_Get: function 27 -/
def halyardref01_Get.f (k : Nat) (a0 : ByteArray) (a1 : Int) : Option (Int × Int) := if (a0.size : Int) < a1 then (some (0, 6)) else (if (a0.size : Int) > a1 then (some (0, 7)) else ((halyardref01_Value.f k a0).bind fun t147 => (some (t147, 0))))
theorem halyardref01_Get.mono : ∀ a0 a1 k, LeO (halyardref01_Get.f k a0 a1) (halyardref01_Get.f (k + 1) a0 a1) := by
  intro a0 a1 k
  unfold halyardref01_Get.f
  repeat' first
      | (with_reducible exact halyardref01_Value.mono _ _)
      | (with_reducible exact LeO.refl _)
      | (with_reducible exact LeO.none _)
      | (with_reducible refine LeO.ite ?_ ?_)
      | (with_reducible refine LeO.bind ?_ (fun _ => ?_))
      | exact halyardref01_Value.mono _ _
      | exact LeO.none _
      | refine LeO.ite ?_ ?_
      | refine LeO.bind ?_ (fun _ => ?_)
set_option maxHeartbeats 8000000 in
set_option maxRecDepth 100000 in
theorem halyardref01_Get.calls (k : Nat) (a0 : ByteArray) (a1 : Int) (r1 : Int) (r2 : Int) (w : World) (h : halyardref01_Get.f k a0 a1 = some (r1, r2)) :
    Calls Try.prog 27 #[.string a0, .int .i64 a1] w fun e w' => e = .returned (.tuple #[.int .u64 r1, .int .i64 r2]) ∧ Drawn0 w w' := by
  have H : (if (a0.size : Int) < a1 then (some (0, 6)) else (if (a0.size : Int) > a1 then (some (0, 7)) else ((halyardref01_Value.f k a0).bind fun t147 => (some (t147, 0))))) = some (r1, r2) := h
  clear h
  by_cases c3 : (a0.size : Int) < a1
  · rw [if_pos c3] at H
    have c3b0 : decide ((a0.size : Int) < a1) = true := decide_eq_true c3
    clear c3
    simp only [Option.some.injEq, Prod.mk.injEq] at H
    obtain ⟨rfl, rfl⟩ := H
    go_enter Try.func27, Try.ntmps27
    go_wp2
    go_ret2
    exact ⟨by first | rfl | (simp; done) | (simp [*]; done), by repeat (first | exact Drawn0.refl _ | apply Drawn0.step)⟩
  · rw [if_neg c3] at H
    have c3b0 : decide ((a0.size : Int) < a1) = false := decide_eq_false c3
    clear c3
    by_cases c4 : (a0.size : Int) > a1
    · rw [if_pos c4] at H
      have c4b0 : decide (a1 < (a0.size : Int)) = true := decide_eq_true c4
      clear c4
      simp only [Option.some.injEq, Prod.mk.injEq] at H
      obtain ⟨rfl, rfl⟩ := H
      go_enter Try.func27, Try.ntmps27
      go_wp2
      go_ret2
      exact ⟨by first | rfl | (simp; done) | (simp [*]; done), by repeat (first | exact Drawn0.refl _ | apply Drawn0.step)⟩
    · rw [if_neg c4] at H
      have c4b0 : decide (a1 < (a0.size : Int)) = false := decide_eq_false c4
      clear c4
      replace H := Option.bind_eq_some_iff.mp H
      obtain ⟨t147, A50, H⟩ := H
      replace H : (some (t147, 0)) = some (r1, r2) := H
      have A5 := Aside0.mk A50
      clear A50
      simp only [Option.some.injEq, Prod.mk.injEq] at H
      obtain ⟨rfl, rfl⟩ := H
      go_enter Try.func27, Try.ntmps27
      go_wp2_with (first | ((with_reducible refine gate_callee (f := 62) rfl ?_); refine goesL_ (some 15) rfl rfl Try.func62 (by kernel_rfl) rfl #[.string a0] rfl (by (try simp only [List.map_toArray, List.map_cons, List.map_nil]); first | done | rfl | (simp only [List.length_drop, List.length_take]; rfl)) ?_; (with_reducible refine (halyardref01_Value.calls k a0 t147 _ A5.out).mono ?_); rintro e w' ⟨rfl, ⟨nd, rfl⟩⟩; refine ⟨_, rfl, ?_⟩))
      go_ret2
      exact ⟨by first | rfl | (simp; done) | (simp [*]; done), by repeat (first | exact Drawn0.refl _ | apply Drawn0.step)⟩

/-! ### octet_Get32: function 28 -/
def octet_Get32.f (a0 : ByteArray) : Option (Int × Int) := if (a0.size : Int) < 4 then some (0, 6) else if (a0.size : Int) > 4 then some (0, 7) else some (16777216 * bt a0 0 + 65536 * bt a0 1 + 256 * bt a0 2 + bt a0 3, 0)
theorem octet_number.four (a0 : ByteArray) (h : a0.size = 4) : octet_number.f 6 a0 4 = some (16777216 * bt a0 0 + 65536 * bt a0 1 + 256 * bt a0 2 + bt a0 3, 0) := by
  have b0 := bt_range a0 0
  have b1 := bt_range a0 1
  have b2 := bt_range a0 2
  have b3 := bt_range a0 3
  have step : ∀ x y : Int, 0 ≤ x → x < 16777216 → 0 ≤ y → y < 256 → Go.bits .or .u32 (x * 256 % 4294967296) (y % 4294967296) = 256 * x + y := fun x y h0 h1 h2 h3 => by
    rw [show x * 256 % 4294967296 = x * 256 from by omega, show y % 4294967296 = y from by omega,
      Go.bits_join .u32 32 (by decide) (fun n h0 h1 => by rw [IntKind.wrap_u32]; omega) 8 _ _ (by omega) (by omega) (by omega) h2 (by omega) (by omega)]; omega
  have e0 : wrap64 (0 + 1) = 1 := by unfold wrap64; omega
  have e1 : wrap64 (1 + 1) = 2 := by unfold wrap64; omega
  have e2 : wrap64 (2 + 1) = 3 := by unfold wrap64; omega
  have e3 : wrap64 (3 + 1) = 4 := by unfold wrap64; omega
  unfold octet_number.f
  rw [if_neg (by omega), if_neg (by omega)]
  simp only [octet_number.l0, h]
  rw [if_pos (by omega), if_pos (by omega), if_pos (by omega), e0, step 0 (bt a0 0) (by omega) (by omega) (by omega) (by omega),
    if_pos (by omega), if_pos (by omega), if_pos (by omega), e1, step (256 * 0 + bt a0 0) (bt a0 1) (by omega) (by omega) (by omega) (by omega),
    if_pos (by omega), if_pos (by omega), if_pos (by omega), e2, step (256 * (256 * 0 + bt a0 0) + bt a0 1) (bt a0 2) (by omega) (by omega) (by omega) (by omega),
    if_pos (by omega), if_pos (by omega), if_pos (by omega), e3, step (256 * (256 * (256 * 0 + bt a0 0) + bt a0 1) + bt a0 2) (bt a0 3) (by omega) (by omega) (by omega) (by omega), if_neg (by omega)]
  simp only [Option.some.injEq, Prod.mk.injEq, and_true]
  omega
theorem octet_Get32.calls (a0 : ByteArray) (r1 : Int) (r2 : Int) (w : World) (h : octet_Get32.f a0 = some (r1, r2)) :
    Calls Try.prog 28 #[.string a0] w fun e w' => e = .returned (.tuple #[.int .u32 r1, .int .i64 r2]) ∧ Drawn0 w w' := by
  have key : octet_number.f 6 a0 4 = some (r1, r2) := by
    unfold octet_Get32.f at h
    by_cases c1 : (a0.size : Int) < 4
    · rw [if_pos c1] at h
      rw [← h]; unfold octet_number.f; rw [if_pos c1]
    rw [if_neg c1] at h
    by_cases c2 : (a0.size : Int) > 4
    · rw [if_pos c2] at h
      rw [← h]; unfold octet_number.f; rw [if_neg c1, if_pos c2]
    rw [if_neg c2] at h
    rw [← h]
    exact octet_number.four a0 (by omega)
  have A2 := Aside0.mk key
  clear key h
  go_enter Try.func28, Try.ntmps28
  go_wp2_with (go_at_call 61; refine (octet_number.calls 6 a0 4 r1 r2 _ A2.out).mono ?_; rintro e w' ⟨rfl, ⟨nd, rfl⟩⟩)
  go_ret2
  exact ⟨rfl, by repeat (first | exact Drawn0.refl _ | apply Drawn0.step)⟩


end Go.Proofs.Ytdojpjiiihmdoaa.PG01L
