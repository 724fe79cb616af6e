-- WRITTEN by wip/tools/hprint.py: the kit's print.py run over this translation, with functions proved by hand laid in. Lean checks it.
import Derived.Test.YtdlpoemjgeehgaaPG06x0
import Derived.Test.YtdlpoemjgeehgaaPG06x11
namespace Go.Proofs.Ytdlpoemjgeehgaa.PG06
open Go.RowKit Go.Proofs.YtdlpoemjgeehgaaW.PrintWords Go.Proofs.YtdlpoemjgeehgaaW.PrintLast Go.Proofs.YtdlpoemjgeehgaaW.PrintMore Go.Proofs.YtdlpoemjgeehgaaHW
attribute [local go_sem] max2_int min2_int max_two min_two max_three min_three max_four min_four   -- for this text's walks alone
set_option linter.unusedVariables false
set_option linter.unusedSimpArgs false

/-! ### halyardref06_Get: function 30 -/
mutual
def halyardref06_Get.j0 : Nat → ByteArray → Bool → Option (Int × ByteArray × Int)
  | 0, _, _ => none
  | k + 1, x0, x19 => if x19 = true then (if 2 ≤ (x0.size : Int) then (halyardref06_Get.j1 k (x0.extract 2 x0.size)) else (none)) else (halyardref06_Get.j1 k x0)
def halyardref06_Get.j1 : Nat → ByteArray → Option (Int × ByteArray × Int)
  | 0, _ => none
  | k + 1, x0 => if x0.toList = ([] : List UInt8) then (some (0, (⟨#[]⟩ : ByteArray), 6)) else (if 0 < (x0.size : Int) then (if (Int.tmod (bt x0 0) 2) = 0 then (if (x0.size : Int) < 2 then (some (0, (⟨#[]⟩ : ByteArray), 6)) else (if 1 < (x0.size : Int) then ((halyardref06_May.f (IntKind.u16.wrap ((IntKind.u16.wrap ((IntKind.u16.wrap (bt x0 0)) * 256)) + (IntKind.u16.wrap (bt x0 1))))).bind fun t170 => (if t170 = true then (if 2 ≤ (x0.size : Int) then (some (IntKind.u16.wrap ((IntKind.u16.wrap ((IntKind.u16.wrap (bt x0 0)) * 256)) + (IntKind.u16.wrap (bt x0 1))), x0.extract 2 x0.size, 0)) else (none)) else (some (0, (⟨#[]⟩ : ByteArray), 7)))) else (none))) else ((halyardref06_May.f (IntKind.u16.wrap (bt x0 0))).bind fun t171 => (if t171 = true then (if 1 ≤ (x0.size : Int) then (some (IntKind.u16.wrap (bt x0 0), x0.extract 1 x0.size, 0)) else (none)) else (some (0, (⟨#[]⟩ : ByteArray), 7))))) else (none))
end
def halyardref06_Get.f (k : Nat) (a0 : ByteArray) : Option (Int × ByteArray × Int) := if (a0.size : Int) ≥ 2 then (if 0 < (a0.size : Int) then (if (bt a0 0) = 255 then (if 1 < (a0.size : Int) then (halyardref06_Get.j0 k a0 ((bt a0 1) == 3)) else (none)) else (halyardref06_Get.j0 k a0 false)) else (none)) else (halyardref06_Get.j0 k a0 false)
theorem halyardref06_Get.mono_l : ∀ k, (∀ y0 y1, LeO (halyardref06_Get.j0 k y0 y1) (halyardref06_Get.j0 (k + 1) y0 y1)) ∧ (∀ y0, LeO (halyardref06_Get.j1 k y0) (halyardref06_Get.j1 (k + 1) y0))
  | 0 => ⟨fun _ _ r h => by simp [halyardref06_Get.j0] at h, fun _ r h => by simp [halyardref06_Get.j1] at h⟩
  | k + 1 => by
    obtain ⟨ih0, ih1⟩ := halyardref06_Get.mono_l k
    refine ⟨?_, ?_⟩
    · intro y0 y1
      unfold halyardref06_Get.j0
      repeat' first
      | (with_reducible exact ih0 _ _)
      | (with_reducible exact ih1 _)
      | (with_reducible exact LeO.refl _)
      | (with_reducible exact LeO.none _)
      | (with_reducible refine LeO.ite ?_ ?_)
      | (with_reducible refine LeO.bind ?_ (fun _ => ?_))
      | exact ih0 _ _
      | exact ih1 _
      | exact LeO.none _
      | refine LeO.ite ?_ ?_
      | refine LeO.bind ?_ (fun _ => ?_)
    · intro y0
      unfold halyardref06_Get.j1
      repeat' first
      | (with_reducible exact ih0 _ _)
      | (with_reducible exact ih1 _)
      | (with_reducible exact LeO.refl _)
      | (with_reducible exact LeO.none _)
      | (with_reducible refine LeO.ite ?_ ?_)
      | (with_reducible refine LeO.bind ?_ (fun _ => ?_))
      | exact ih0 _ _
      | exact ih1 _
      | exact LeO.none _
      | refine LeO.ite ?_ ?_
      | refine LeO.bind ?_ (fun _ => ?_)
theorem halyardref06_Get.mono : ∀ a0 k, LeO (halyardref06_Get.f k a0) (halyardref06_Get.f (k + 1) a0) := by
  intro a0 k
  obtain ⟨ih0, ih1⟩ := halyardref06_Get.mono_l k
  unfold halyardref06_Get.f
  repeat' first
      | (with_reducible exact ih0 _ _)
      | (with_reducible exact ih1 _)
      | (with_reducible exact LeO.refl _)
      | (with_reducible exact LeO.none _)
      | (with_reducible refine LeO.ite ?_ ?_)
      | (with_reducible refine LeO.bind ?_ (fun _ => ?_))
      | exact ih0 _ _
      | exact ih1 _
      | exact LeO.none _
      | refine LeO.ite ?_ ?_
      | refine LeO.bind ?_ (fun _ => ?_)
set_option maxHeartbeats 8000000 in
set_option maxRecDepth 100000 in
theorem halyardref06_Get.calls (k : Nat) (a0 : ByteArray) (r1 : Int) (r2 : ByteArray) (r3 : Int) (w : World) (h : halyardref06_Get.f k a0 = some (r1, r2, r3)) :
    Calls Try.prog 30 #[.string a0] w fun e w' => e = .returned (.tuple #[.int .u16 r1, .string r2, .int .i64 r3]) ∧ Drawn0 w w' := by
  have H : (if (a0.size : Int) ≥ 2 then (if 0 < (a0.size : Int) then (if (bt a0 0) = 255 then (if 1 < (a0.size : Int) then (halyardref06_Get.j0 k a0 ((bt a0 1) == 3)) else (none)) else (halyardref06_Get.j0 k a0 false)) else (none)) else (halyardref06_Get.j0 k a0 false)) = some (r1, r2, r3) := h
  clear h
  have HC2 := Aside0.mk H
  clear H
  go_enter Try.func30, Try.ntmps30
  go_upto_region 1 with (fail)
  repeat (go_quiet (fail); go_upto_region 1 with (fail))
  go_cut [19] (fun v19 wc => ∃ (kq : Nat) (x19_1 : Bool), v19 = .bool x19_1 ∧ Aside0 (halyardref06_Get.j0 kq a0 x19_1 = some (r1, r2, r3)) ∧ Aside0 (kq ≤ k) ∧ Drawn0 w wc)
  case first =>
    have H := HC2.out
    clear HC2
    by_cases c3 : (a0.size : Int) ≥ 2
    · rw [if_pos c3] at H
      have c3b0 : decide (2 ≤ (a0.size : Int)) = true := decide_eq_true c3
      have c3b1 : decide (2 ≤ a0.size) = true := decide_eq_true (by omega)
      clear c3
      (first | rw [c3b0] | (simp only [i64_w, i32_w]; rw [c3b0]) | skip)
      by_cases c4 : 0 < (a0.size : Int)
      · rw [if_pos c4] at H
        have c4b0 : decide (0 < (a0.size : Int)) = true := decide_eq_true c4
        have c4b1 : decide (0 < a0.size) = true := decide_eq_true (by omega)
        clear c4
        by_cases c6 : (bt a0 0) = 255
        · rw [if_pos c6] at H
          have c6b0 : ((bt a0 0) == 255) = true := beq_iff_eq.mpr c6
          have c6b1 : ((bt a0 0) != 255) = false := bne_eq_false_iff_eq.mpr c6
          clear c6
          by_cases c7 : 1 < (a0.size : Int)
          · rw [if_pos c7] at H
            have c7b0 : decide (1 < (a0.size : Int)) = true := decide_eq_true c7
            have c7b1 : decide (1 < a0.size) = true := decide_eq_true (by omega)
            clear c7
            have H' := Aside0.mk H
            clear H
            have p5 : 0 ≤ (0 : Int) := (by omega)
            have q5 : 0 < a0.size := (by have : (0 : Int) < (a0.size : Int) := of_decide_eq_true (by first | (with_reducible assumption) | assumption); omega)
            have hx5 : ∀ h : 0 < a0.size, ((a0[0]'h).toNat : Int) = bt a0 0 := bt_at a0 0
            clear p5
            have qi5 : (0 < (a0.size : Int)) = True := eq_true (of_decide_eq_true (by first | (with_reducible assumption) | assumption))
            replace q5 := eq_true q5
            have p8 : 0 ≤ (1 : Int) := (by omega)
            have q8 : 1 < a0.size := (by have : (1 : Int) < (a0.size : Int) := of_decide_eq_true (by first | (with_reducible assumption) | assumption); omega)
            have hx8 : ∀ h : 1 < a0.size, ((a0[1]'h).toNat : Int) = bt a0 1 := bt_at a0 1
            clear p8
            have qi8 : (1 < (a0.size : Int)) = True := eq_true (of_decide_eq_true (by first | (with_reducible assumption) | assumption))
            replace q8 := eq_true q8
            go_wp2
            repeat (go_quiet (fail); try go_wp2)
            go_meet
            case rel => exact ⟨_, (((bt a0 1) == 3)), (by first | rfl | (simp; done) | (simp [*]; done)), H', ⟨by first | omega | exact Nat.le_refl _⟩, by repeat (first | exact Drawn0.refl _ | apply Drawn0.step)⟩
          · rw [if_neg c7] at H
            exact absurd H (by simp)
        · rw [if_neg c6] at H
          have c6b0 : ((bt a0 0) == 255) = false := beq_eq_false_iff_ne.mpr c6
          have c6b1 : ((bt a0 0) != 255) = true := bne_iff_ne.mpr c6
          have H' := Aside0.mk H
          clear H
          have p5 : 0 ≤ (0 : Int) := (by omega)
          have q5 : 0 < a0.size := (by have : (0 : Int) < (a0.size : Int) := of_decide_eq_true (by first | (with_reducible assumption) | assumption); omega)
          have hx5 : ∀ h : 0 < a0.size, ((a0[0]'h).toNat : Int) = bt a0 0 := bt_at a0 0
          clear p5
          have qi5 : (0 < (a0.size : Int)) = True := eq_true (of_decide_eq_true (by first | (with_reducible assumption) | assumption))
          replace q5 := eq_true q5
          go_wp2
          repeat (go_quiet (fail); try go_wp2)
          go_meet
          case rel => exact ⟨_, (false), (by first | rfl | (simp; done) | (simp [*]; done)), H', ⟨by first | omega | exact Nat.le_refl _⟩, by repeat (first | exact Drawn0.refl _ | apply Drawn0.step)⟩
      · rw [if_neg c4] at H
        exact absurd H (by simp)
    · rw [if_neg c3] at H
      have c3b0 : decide (2 ≤ (a0.size : Int)) = false := decide_eq_false c3
      have c3b1 : decide (2 ≤ a0.size) = false := decide_eq_false (by omega)
      clear c3
      (first | rw [c3b0] | (simp only [i64_w, i32_w]; rw [c3b0]) | skip)
      have H' := Aside0.mk H
      clear H
      go_wp2
      repeat (go_quiet (fail); try go_wp2)
      go_meet
      case rel => exact ⟨_, (false), (by first | rfl | (simp; done) | (simp [*]; done)), H', ⟨by first | omega | exact Nat.le_refl _⟩, by repeat (first | exact Drawn0.refl _ | apply Drawn0.step)⟩
  case rest =>
    clear HC2
    try clear p2
    try clear c3
    try clear c3b0
    try clear c3b1
    try clear c4
    try clear c4b0
    try clear c4b1
    try clear p5
    try clear q5
    try clear hx5
    try clear qi5
    try clear c6
    try clear c6b0
    try clear c6b1
    try clear c7
    try clear c7b0
    try clear c7b1
    try clear p8
    try clear q8
    try clear hx8
    try clear qi8
    try clear p5
    try clear p8
    try clear q5
    try clear q8
    obtain ⟨kq, x19_1, rfl, HA, HJ1, ⟨mc1, rfl⟩⟩ := hcut
    cases kq with
    | zero => exact absurd HA.out (by simp [halyardref06_Get.j0])
    | succ kj1 =>
      have H := HA.out
      clear HA
      simp only [halyardref06_Get.j0] at H
      have HC9 := Aside0.mk H
      clear H
      go_upto_if 19 with (fail)
      repeat (go_quiet (fail); go_upto_if 19 with (fail))
      go_cut [0] (fun v0 wc => ∃ (kq : Nat) (x0_8 : ByteArray), v0 = .string x0_8 ∧ Aside0 (halyardref06_Get.j1 kq x0_8 = some (r1, r2, r3)) ∧ Aside0 (kq ≤ kj1) ∧ Drawn0 w wc)
      case first =>
        have H := HC9.out
        clear HC9
        by_cases c10 : x19_1 = true
        · subst c10
          have H1 : (if 2 ≤ (a0.size : Int) then (halyardref06_Get.j1 kj1 (a0.extract 2 a0.size)) else (none)) = some (r1, r2, r3) := by rw [if_pos rfl] at H; exact H
          clear H
          have H := H1
          clear H1
          by_cases c11 : 2 ≤ (a0.size : Int)
          · rw [if_pos c11] at H
            have c11b0 := eq_true c11
            have c11b1 : decide (2 ≤ (a0.size : Int)) = true := decide_eq_true c11
            clear c11
            have H' := Aside0.mk H
            clear H
            go_wp2
            repeat (go_quiet (fail); try go_wp2)
            go_meet
            case rel => exact ⟨_, (a0.extract 2 a0.size), (by first | rfl | (simp; done) | (simp [*]; done)), H', ⟨by have := HJ1.out; first | omega | exact Nat.le_refl _⟩, by repeat (first | exact Drawn0.refl _ | apply Drawn0.step)⟩
          · rw [if_neg c11] at H
            exact absurd H (by simp)
        · replace c10 := Bool.eq_false_iff.mpr c10
          subst c10
          have H1 : (halyardref06_Get.j1 kj1 a0) = some (r1, r2, r3) := by rw [if_neg (show ¬ (false = true) by decide)] at H; exact H
          clear H
          have H := H1
          clear H1
          have H' := Aside0.mk H
          clear H
          go_wp2
          repeat (go_quiet (fail); try go_wp2)
          go_meet
          case rel => exact ⟨_, (a0), (by first | rfl | (simp; done) | (simp [*]; done)), H', ⟨by have := HJ1.out; first | omega | exact Nat.le_refl _⟩, by repeat (first | exact Drawn0.refl _ | apply Drawn0.step)⟩
      case rest =>
        clear HC9
        try clear c1
        try clear p2
        try clear c3
        try clear c3b0
        try clear c3b1
        try clear c4
        try clear c4b0
        try clear c4b1
        try clear p5
        try clear q5
        try clear hx5
        try clear qi5
        try clear c6
        try clear c6b0
        try clear c6b1
        try clear c7
        try clear c7b0
        try clear c7b1
        try clear p8
        try clear q8
        try clear hx8
        try clear qi8
        try clear c10
        try clear c11
        try clear c11b0
        try clear c11b1
        try clear p2
        try clear p5
        try clear p8
        try clear q5
        try clear q8
        obtain ⟨kq, x0_8, rfl, HA, HJ8, ⟨mc8, rfl⟩⟩ := hcut
        cases kq with
        | zero => exact absurd HA.out (by simp [halyardref06_Get.j1])
        | succ kj8 =>
          have H := HA.out
          clear HA
          simp only [halyardref06_Get.j1] at H
          by_cases c12 : x0_8.toList = ([] : List UInt8)
          · rw [if_pos c12] at H
            have c12b0 : (x0_8.toList == ([] : List UInt8)) = true := beq_iff_eq.mpr c12
            have c12b1 : (x0_8.toList != ([] : List UInt8)) = false := bne_eq_false_iff_eq.mpr c12
            clear c12
            simp only [Option.some.injEq, Prod.mk.injEq] at H
            obtain ⟨rfl, rfl, rfl⟩ := H
            go_wp2
            repeat (go_quiet (fail); try go_wp2)
            go_ret3
            exact ⟨by first | rfl | (simp; done) | (simp [*]; done), by repeat (first | exact Drawn0.refl _ | apply Drawn0.step)⟩
          · rw [if_neg c12] at H
            have c12b0 : (x0_8.toList == ([] : List UInt8)) = false := beq_eq_false_iff_ne.mpr c12
            have c12b1 : (x0_8.toList != ([] : List UInt8)) = true := bne_iff_ne.mpr c12
            by_cases c13 : 0 < (x0_8.size : Int)
            · rw [if_pos c13] at H
              have c13b0 : decide (0 < (x0_8.size : Int)) = true := decide_eq_true c13
              have c13b1 : decide (0 < x0_8.size) = true := decide_eq_true (by omega)
              clear c13
              by_cases c16 : (Int.tmod (bt x0_8 0) 2) = 0
              · rw [if_pos c16] at H
                have c16b0 : ((Int.tmod (bt x0_8 0) 2) == 0) = true := beq_iff_eq.mpr c16
                have c16b1 : ((Int.tmod (bt x0_8 0) 2) != 0) = false := bne_eq_false_iff_eq.mpr c16
                clear c16
                by_cases c17 : (x0_8.size : Int) < 2
                · rw [if_pos c17] at H
                  have c17b0 : decide ((x0_8.size : Int) < 2) = true := decide_eq_true c17
                  have c17b1 : decide (x0_8.size < 2) = true := decide_eq_true (by omega)
                  clear c17
                  simp only [Option.some.injEq, Prod.mk.injEq] at H
                  obtain ⟨rfl, rfl, rfl⟩ := H
                  have p14 : 0 ≤ (0 : Int) := (by omega)
                  have q14 : 0 < x0_8.size := (by have : (0 : Int) < (x0_8.size : Int) := of_decide_eq_true (by first | (with_reducible assumption) | assumption); omega)
                  have hx14 : ∀ h : 0 < x0_8.size, ((x0_8[0]'h).toNat : Int) = bt x0_8 0 := bt_at x0_8 0
                  clear p14
                  have qi14 : (0 < (x0_8.size : Int)) = True := eq_true (of_decide_eq_true (by first | (with_reducible assumption) | assumption))
                  replace q14 := eq_true q14
                  have p15 : 0 ≤ (0 : Int) := (by omega)
                  have q15 : 0 < x0_8.size := (by have : (0 : Int) < (x0_8.size : Int) := of_decide_eq_true (by first | (with_reducible assumption) | assumption); omega)
                  have hx15 : ∀ h : 0 < x0_8.size, ((x0_8[0]'h).toNat : Int) = bt x0_8 0 := bt_at x0_8 0
                  clear p15
                  have qi15 : (0 < (x0_8.size : Int)) = True := eq_true (of_decide_eq_true (by first | (with_reducible assumption) | assumption))
                  replace q15 := eq_true q15
                  go_wp2
                  repeat (go_quiet (fail); try go_wp2)
                  go_ret3
                  exact ⟨by first | rfl | (simp; done) | (simp [*]; done), by repeat (first | exact Drawn0.refl _ | apply Drawn0.step)⟩
                · rw [if_neg c17] at H
                  have c17b0 : decide ((x0_8.size : Int) < 2) = false := decide_eq_false c17
                  have c17b1 : decide (x0_8.size < 2) = false := decide_eq_false (by omega)
                  clear c17
                  by_cases c18 : 1 < (x0_8.size : Int)
                  · rw [if_pos c18] at H
                    have c18b0 : decide (1 < (x0_8.size : Int)) = true := decide_eq_true c18
                    have c18b1 : decide (1 < x0_8.size) = true := decide_eq_true (by omega)
                    clear c18
                    replace H := Option.bind_eq_some_iff.mp H
                    obtain ⟨t170, A200, H⟩ := H
                    replace H : (if t170 = true then (if 2 ≤ (x0_8.size : Int) then (some (IntKind.u16.wrap ((IntKind.u16.wrap ((IntKind.u16.wrap (bt x0_8 0)) * 256)) + (IntKind.u16.wrap (bt x0_8 1))), x0_8.extract 2 x0_8.size, 0)) else (none)) else (some (0, (⟨#[]⟩ : ByteArray), 7))) = some (r1, r2, r3) := H
                    have A20 := Aside0.mk A200
                    clear A200
                    by_cases c21 : t170 = true
                    · subst c21
                      have H1 : (if 2 ≤ (x0_8.size : Int) then (some (IntKind.u16.wrap ((IntKind.u16.wrap ((IntKind.u16.wrap (bt x0_8 0)) * 256)) + (IntKind.u16.wrap (bt x0_8 1))), x0_8.extract 2 x0_8.size, 0)) else (none)) = some (r1, r2, r3) := by rw [if_pos rfl] at H; exact H
                      clear H
                      have H := H1
                      clear H1
                      by_cases c22 : 2 ≤ (x0_8.size : Int)
                      · rw [if_pos c22] at H
                        have c22b0 := eq_true c22
                        have c22b1 : decide (2 ≤ (x0_8.size : Int)) = true := decide_eq_true c22
                        clear c22
                        simp only [Option.some.injEq, Prod.mk.injEq] at H
                        obtain ⟨rfl, rfl, rfl⟩ := H
                        have p14 : 0 ≤ (0 : Int) := (by omega)
                        have q14 : 0 < x0_8.size := (by have : (0 : Int) < (x0_8.size : Int) := of_decide_eq_true (by first | (with_reducible assumption) | assumption); omega)
                        have hx14 : ∀ h : 0 < x0_8.size, ((x0_8[0]'h).toNat : Int) = bt x0_8 0 := bt_at x0_8 0
                        clear p14
                        have qi14 : (0 < (x0_8.size : Int)) = True := eq_true (of_decide_eq_true (by first | (with_reducible assumption) | assumption))
                        replace q14 := eq_true q14
                        have p15 : 0 ≤ (0 : Int) := (by omega)
                        have q15 : 0 < x0_8.size := (by have : (0 : Int) < (x0_8.size : Int) := of_decide_eq_true (by first | (with_reducible assumption) | assumption); omega)
                        have hx15 : ∀ h : 0 < x0_8.size, ((x0_8[0]'h).toNat : Int) = bt x0_8 0 := bt_at x0_8 0
                        clear p15
                        have qi15 : (0 < (x0_8.size : Int)) = True := eq_true (of_decide_eq_true (by first | (with_reducible assumption) | assumption))
                        replace q15 := eq_true q15
                        have p19 : 0 ≤ (1 : Int) := (by omega)
                        have q19 : 1 < x0_8.size := (by have : (1 : Int) < (x0_8.size : Int) := of_decide_eq_true (by first | (with_reducible assumption) | assumption); omega)
                        have hx19 : ∀ h : 1 < x0_8.size, ((x0_8[1]'h).toNat : Int) = bt x0_8 1 := bt_at x0_8 1
                        clear p19
                        have qi19 : (1 < (x0_8.size : Int)) = True := eq_true (of_decide_eq_true (by first | (with_reducible assumption) | assumption))
                        replace q19 := eq_true q19
                        go_wp2_with (first | (go_at_call 32; (with_reducible refine (halyardref06_May.calls (IntKind.u16.wrap ((IntKind.u16.wrap ((IntKind.u16.wrap (bt x0_8 0)) * 256)) + (IntKind.u16.wrap (bt x0_8 1)))) true _ A20.out).mono ?_); rintro e w' ⟨rfl, ⟨nd, rfl⟩⟩; (try first | exact ⟨rfl, _, World.drewN_drewN _ _ _⟩ | exact ⟨rfl, _, Eq.trans (World.drewN_drewN _ _ _) (congrArg (World.drewN _) (Nat.add_assoc _ _ _))⟩)))
                        repeat (go_quiet (first | (go_at_call 32; (with_reducible refine (halyardref06_May.calls (IntKind.u16.wrap ((IntKind.u16.wrap ((IntKind.u16.wrap (bt x0_8 0)) * 256)) + (IntKind.u16.wrap (bt x0_8 1)))) true _ A20.out).mono ?_); rintro e w' ⟨rfl, ⟨nd, rfl⟩⟩; (try first | exact ⟨rfl, _, World.drewN_drewN _ _ _⟩ | exact ⟨rfl, _, Eq.trans (World.drewN_drewN _ _ _) (congrArg (World.drewN _) (Nat.add_assoc _ _ _))⟩))); try go_wp2_with (first | (go_at_call 32; (with_reducible refine (halyardref06_May.calls (IntKind.u16.wrap ((IntKind.u16.wrap ((IntKind.u16.wrap (bt x0_8 0)) * 256)) + (IntKind.u16.wrap (bt x0_8 1)))) true _ A20.out).mono ?_); rintro e w' ⟨rfl, ⟨nd, rfl⟩⟩; (try first | exact ⟨rfl, _, World.drewN_drewN _ _ _⟩ | exact ⟨rfl, _, Eq.trans (World.drewN_drewN _ _ _) (congrArg (World.drewN _) (Nat.add_assoc _ _ _))⟩))))
                        go_ret3
                        exact ⟨by first | rfl | (simp; done) | (simp [*]; done), by repeat (first | exact Drawn0.refl _ | apply Drawn0.step)⟩
                      · rw [if_neg c22] at H
                        exact absurd H (by simp)
                    · replace c21 := Bool.eq_false_iff.mpr c21
                      subst c21
                      have H1 : (some (0, (⟨#[]⟩ : ByteArray), 7)) = some (r1, r2, r3) := by rw [if_neg (show ¬ (false = true) by decide)] at H; exact H
                      clear H
                      have H := H1
                      clear H1
                      simp only [Option.some.injEq, Prod.mk.injEq] at H
                      obtain ⟨rfl, rfl, rfl⟩ := H
                      have p14 : 0 ≤ (0 : Int) := (by omega)
                      have q14 : 0 < x0_8.size := (by have : (0 : Int) < (x0_8.size : Int) := of_decide_eq_true (by first | (with_reducible assumption) | assumption); omega)
                      have hx14 : ∀ h : 0 < x0_8.size, ((x0_8[0]'h).toNat : Int) = bt x0_8 0 := bt_at x0_8 0
                      clear p14
                      have qi14 : (0 < (x0_8.size : Int)) = True := eq_true (of_decide_eq_true (by first | (with_reducible assumption) | assumption))
                      replace q14 := eq_true q14
                      have p15 : 0 ≤ (0 : Int) := (by omega)
                      have q15 : 0 < x0_8.size := (by have : (0 : Int) < (x0_8.size : Int) := of_decide_eq_true (by first | (with_reducible assumption) | assumption); omega)
                      have hx15 : ∀ h : 0 < x0_8.size, ((x0_8[0]'h).toNat : Int) = bt x0_8 0 := bt_at x0_8 0
                      clear p15
                      have qi15 : (0 < (x0_8.size : Int)) = True := eq_true (of_decide_eq_true (by first | (with_reducible assumption) | assumption))
                      replace q15 := eq_true q15
                      have p19 : 0 ≤ (1 : Int) := (by omega)
                      have q19 : 1 < x0_8.size := (by have : (1 : Int) < (x0_8.size : Int) := of_decide_eq_true (by first | (with_reducible assumption) | assumption); omega)
                      have hx19 : ∀ h : 1 < x0_8.size, ((x0_8[1]'h).toNat : Int) = bt x0_8 1 := bt_at x0_8 1
                      clear p19
                      have qi19 : (1 < (x0_8.size : Int)) = True := eq_true (of_decide_eq_true (by first | (with_reducible assumption) | assumption))
                      replace q19 := eq_true q19
                      go_wp2_with (first | (go_at_call 32; (with_reducible refine (halyardref06_May.calls (IntKind.u16.wrap ((IntKind.u16.wrap ((IntKind.u16.wrap (bt x0_8 0)) * 256)) + (IntKind.u16.wrap (bt x0_8 1)))) false _ A20.out).mono ?_); rintro e w' ⟨rfl, ⟨nd, rfl⟩⟩; (try first | exact ⟨rfl, _, World.drewN_drewN _ _ _⟩ | exact ⟨rfl, _, Eq.trans (World.drewN_drewN _ _ _) (congrArg (World.drewN _) (Nat.add_assoc _ _ _))⟩)))
                      repeat (go_quiet (first | (go_at_call 32; (with_reducible refine (halyardref06_May.calls (IntKind.u16.wrap ((IntKind.u16.wrap ((IntKind.u16.wrap (bt x0_8 0)) * 256)) + (IntKind.u16.wrap (bt x0_8 1)))) false _ A20.out).mono ?_); rintro e w' ⟨rfl, ⟨nd, rfl⟩⟩; (try first | exact ⟨rfl, _, World.drewN_drewN _ _ _⟩ | exact ⟨rfl, _, Eq.trans (World.drewN_drewN _ _ _) (congrArg (World.drewN _) (Nat.add_assoc _ _ _))⟩))); try go_wp2_with (first | (go_at_call 32; (with_reducible refine (halyardref06_May.calls (IntKind.u16.wrap ((IntKind.u16.wrap ((IntKind.u16.wrap (bt x0_8 0)) * 256)) + (IntKind.u16.wrap (bt x0_8 1)))) false _ A20.out).mono ?_); rintro e w' ⟨rfl, ⟨nd, rfl⟩⟩; (try first | exact ⟨rfl, _, World.drewN_drewN _ _ _⟩ | exact ⟨rfl, _, Eq.trans (World.drewN_drewN _ _ _) (congrArg (World.drewN _) (Nat.add_assoc _ _ _))⟩))))
                      go_ret3
                      exact ⟨by first | rfl | (simp; done) | (simp [*]; done), by repeat (first | exact Drawn0.refl _ | apply Drawn0.step)⟩
                  · rw [if_neg c18] at H
                    exact absurd H (by simp)
              · rw [if_neg c16] at H
                have c16b0 : ((Int.tmod (bt x0_8 0) 2) == 0) = false := beq_eq_false_iff_ne.mpr c16
                have c16b1 : ((Int.tmod (bt x0_8 0) 2) != 0) = true := bne_iff_ne.mpr c16
                replace H := Option.bind_eq_some_iff.mp H
                obtain ⟨t171, A230, H⟩ := H
                replace H : (if t171 = true then (if 1 ≤ (x0_8.size : Int) then (some (IntKind.u16.wrap (bt x0_8 0), x0_8.extract 1 x0_8.size, 0)) else (none)) else (some (0, (⟨#[]⟩ : ByteArray), 7))) = some (r1, r2, r3) := H
                have A23 := Aside0.mk A230
                clear A230
                by_cases c24 : t171 = true
                · subst c24
                  have H1 : (if 1 ≤ (x0_8.size : Int) then (some (IntKind.u16.wrap (bt x0_8 0), x0_8.extract 1 x0_8.size, 0)) else (none)) = some (r1, r2, r3) := by rw [if_pos rfl] at H; exact H
                  clear H
                  have H := H1
                  clear H1
                  by_cases c25 : 1 ≤ (x0_8.size : Int)
                  · rw [if_pos c25] at H
                    have c25b0 := eq_true c25
                    have c25b1 : decide (1 ≤ (x0_8.size : Int)) = true := decide_eq_true c25
                    clear c25
                    simp only [Option.some.injEq, Prod.mk.injEq] at H
                    obtain ⟨rfl, rfl, rfl⟩ := H
                    have p14 : 0 ≤ (0 : Int) := (by omega)
                    have q14 : 0 < x0_8.size := (by have : (0 : Int) < (x0_8.size : Int) := of_decide_eq_true (by first | (with_reducible assumption) | assumption); omega)
                    have hx14 : ∀ h : 0 < x0_8.size, ((x0_8[0]'h).toNat : Int) = bt x0_8 0 := bt_at x0_8 0
                    clear p14
                    have qi14 : (0 < (x0_8.size : Int)) = True := eq_true (of_decide_eq_true (by first | (with_reducible assumption) | assumption))
                    replace q14 := eq_true q14
                    have p15 : 0 ≤ (0 : Int) := (by omega)
                    have q15 : 0 < x0_8.size := (by have : (0 : Int) < (x0_8.size : Int) := of_decide_eq_true (by first | (with_reducible assumption) | assumption); omega)
                    have hx15 : ∀ h : 0 < x0_8.size, ((x0_8[0]'h).toNat : Int) = bt x0_8 0 := bt_at x0_8 0
                    clear p15
                    have qi15 : (0 < (x0_8.size : Int)) = True := eq_true (of_decide_eq_true (by first | (with_reducible assumption) | assumption))
                    replace q15 := eq_true q15
                    go_wp2_with (first | (go_at_call 32; (with_reducible refine (halyardref06_May.calls (IntKind.u16.wrap (bt x0_8 0)) true _ A23.out).mono ?_); rintro e w' ⟨rfl, ⟨nd, rfl⟩⟩; (try first | exact ⟨rfl, _, World.drewN_drewN _ _ _⟩ | exact ⟨rfl, _, Eq.trans (World.drewN_drewN _ _ _) (congrArg (World.drewN _) (Nat.add_assoc _ _ _))⟩)))
                    repeat (go_quiet (first | (go_at_call 32; (with_reducible refine (halyardref06_May.calls (IntKind.u16.wrap (bt x0_8 0)) true _ A23.out).mono ?_); rintro e w' ⟨rfl, ⟨nd, rfl⟩⟩; (try first | exact ⟨rfl, _, World.drewN_drewN _ _ _⟩ | exact ⟨rfl, _, Eq.trans (World.drewN_drewN _ _ _) (congrArg (World.drewN _) (Nat.add_assoc _ _ _))⟩))); try go_wp2_with (first | (go_at_call 32; (with_reducible refine (halyardref06_May.calls (IntKind.u16.wrap (bt x0_8 0)) true _ A23.out).mono ?_); rintro e w' ⟨rfl, ⟨nd, rfl⟩⟩; (try first | exact ⟨rfl, _, World.drewN_drewN _ _ _⟩ | exact ⟨rfl, _, Eq.trans (World.drewN_drewN _ _ _) (congrArg (World.drewN _) (Nat.add_assoc _ _ _))⟩))))
                    go_ret3
                    exact ⟨by first | rfl | (simp; done) | (simp [*]; done), by repeat (first | exact Drawn0.refl _ | apply Drawn0.step)⟩
                  · rw [if_neg c25] at H
                    exact absurd H (by simp)
                · replace c24 := Bool.eq_false_iff.mpr c24
                  subst c24
                  have H1 : (some (0, (⟨#[]⟩ : ByteArray), 7)) = some (r1, r2, r3) := by rw [if_neg (show ¬ (false = true) by decide)] at H; exact H
                  clear H
                  have H := H1
                  clear H1
                  simp only [Option.some.injEq, Prod.mk.injEq] at H
                  obtain ⟨rfl, rfl, rfl⟩ := H
                  have p14 : 0 ≤ (0 : Int) := (by omega)
                  have q14 : 0 < x0_8.size := (by have : (0 : Int) < (x0_8.size : Int) := of_decide_eq_true (by first | (with_reducible assumption) | assumption); omega)
                  have hx14 : ∀ h : 0 < x0_8.size, ((x0_8[0]'h).toNat : Int) = bt x0_8 0 := bt_at x0_8 0
                  clear p14
                  have qi14 : (0 < (x0_8.size : Int)) = True := eq_true (of_decide_eq_true (by first | (with_reducible assumption) | assumption))
                  replace q14 := eq_true q14
                  have p15 : 0 ≤ (0 : Int) := (by omega)
                  have q15 : 0 < x0_8.size := (by have : (0 : Int) < (x0_8.size : Int) := of_decide_eq_true (by first | (with_reducible assumption) | assumption); omega)
                  have hx15 : ∀ h : 0 < x0_8.size, ((x0_8[0]'h).toNat : Int) = bt x0_8 0 := bt_at x0_8 0
                  clear p15
                  have qi15 : (0 < (x0_8.size : Int)) = True := eq_true (of_decide_eq_true (by first | (with_reducible assumption) | assumption))
                  replace q15 := eq_true q15
                  go_wp2_with (first | (go_at_call 32; (with_reducible refine (halyardref06_May.calls (IntKind.u16.wrap (bt x0_8 0)) false _ A23.out).mono ?_); rintro e w' ⟨rfl, ⟨nd, rfl⟩⟩; (try first | exact ⟨rfl, _, World.drewN_drewN _ _ _⟩ | exact ⟨rfl, _, Eq.trans (World.drewN_drewN _ _ _) (congrArg (World.drewN _) (Nat.add_assoc _ _ _))⟩)))
                  repeat (go_quiet (first | (go_at_call 32; (with_reducible refine (halyardref06_May.calls (IntKind.u16.wrap (bt x0_8 0)) false _ A23.out).mono ?_); rintro e w' ⟨rfl, ⟨nd, rfl⟩⟩; (try first | exact ⟨rfl, _, World.drewN_drewN _ _ _⟩ | exact ⟨rfl, _, Eq.trans (World.drewN_drewN _ _ _) (congrArg (World.drewN _) (Nat.add_assoc _ _ _))⟩))); try go_wp2_with (first | (go_at_call 32; (with_reducible refine (halyardref06_May.calls (IntKind.u16.wrap (bt x0_8 0)) false _ A23.out).mono ?_); rintro e w' ⟨rfl, ⟨nd, rfl⟩⟩; (try first | exact ⟨rfl, _, World.drewN_drewN _ _ _⟩ | exact ⟨rfl, _, Eq.trans (World.drewN_drewN _ _ _) (congrArg (World.drewN _) (Nat.add_assoc _ _ _))⟩))))
                  go_ret3
                  exact ⟨by first | rfl | (simp; done) | (simp [*]; done), by repeat (first | exact Drawn0.refl _ | apply Drawn0.step)⟩
            · rw [if_neg c13] at H
              exact absurd H (by simp)

end Go.Proofs.Ytdlpoemjgeehgaa.PG06
