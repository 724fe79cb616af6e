-- WRITTEN by wip/tools/hprint.py: the kit's print.py run over this translation, with functions proved by hand laid in. Lean checks it.
import Derived.Test.YtdojpjiiihmdoaaPG01x0
import Derived.Test.YtdojpjiiihmdoaaPG01x1
import Derived.Test.YtdojpjiiihmdoaaPG01x7
namespace Go.Proofs.Ytdojpjiiihmdoaa.PG01
open Go.RowKit Go.Proofs.YtdojpjiiihmdoaaW.PrintWords Go.Proofs.YtdojpjiiihmdoaaW.PrintLast Go.Proofs.YtdojpjiiihmdoaaW.PrintMore Go.Proofs.YtdojpjiiihmdoaaHW
attribute [local go_sem] max2_int min2_int max_two min_two max_three min_three max_four min_four   -- for this text's walks alone
set_option linter.unusedVariables false
set_option linter.unusedSimpArgs false

/-! ### halyardref01_Get: function 27 -/
def halyardref01_Get.f (k : Nat) (a0 : ByteArray) (a1 : Int) : Option (Int × Int) := if (a0.size : Int) < a1 then (some (0, 6)) else (if (a0.size : Int) > a1 then (some (0, 7)) else ((halyardref01_Value.f k a0).bind fun t138 => (some (t138, 0))))
theorem halyardref01_Get.mono : ∀ a0 a1 k, LeO (halyardref01_Get.f k a0 a1) (halyardref01_Get.f (k + 1) a0 a1) := by
  intro a0 a1 k
  unfold halyardref01_Get.f
  repeat' first
      | (with_reducible exact halyardref01_Value.mono _ _)
      | (with_reducible exact LeO.refl _)
      | (with_reducible exact LeO.none _)
      | (with_reducible refine LeO.ite ?_ ?_)
      | (with_reducible refine LeO.bind ?_ (fun _ => ?_))
      | exact halyardref01_Value.mono _ _
      | exact LeO.none _
      | refine LeO.ite ?_ ?_
      | refine LeO.bind ?_ (fun _ => ?_)
set_option maxHeartbeats 8000000 in
set_option maxRecDepth 100000 in
theorem halyardref01_Get.calls (k : Nat) (a0 : ByteArray) (a1 : Int) (r1 : Int) (r2 : Int) (w : World) (h : halyardref01_Get.f k a0 a1 = some (r1, r2)) :
    Calls Try.prog 27 #[.string a0, .int .i64 a1] w fun e w' => e = .returned (.tuple #[.int .u64 r1, .int .i64 r2]) ∧ Drawn0 w w' := by
  have H : (if (a0.size : Int) < a1 then (some (0, 6)) else (if (a0.size : Int) > a1 then (some (0, 7)) else ((halyardref01_Value.f k a0).bind fun t138 => (some (t138, 0))))) = some (r1, r2) := h
  clear h
  by_cases c3 : (a0.size : Int) < a1
  · rw [if_pos c3] at H
    have c3b0 : decide ((a0.size : Int) < a1) = true := decide_eq_true c3
    clear c3
    simp only [Option.some.injEq, Prod.mk.injEq] at H
    obtain ⟨rfl, rfl⟩ := H
    go_enter Try.func27, Try.ntmps27
    go_wp2
    go_ret2
    exact ⟨by first | rfl | (simp; done) | (simp [*]; done), by repeat (first | exact Drawn0.refl _ | apply Drawn0.step)⟩
  · rw [if_neg c3] at H
    have c3b0 : decide ((a0.size : Int) < a1) = false := decide_eq_false c3
    clear c3
    by_cases c4 : (a0.size : Int) > a1
    · rw [if_pos c4] at H
      have c4b0 : decide (a1 < (a0.size : Int)) = true := decide_eq_true c4
      clear c4
      simp only [Option.some.injEq, Prod.mk.injEq] at H
      obtain ⟨rfl, rfl⟩ := H
      go_enter Try.func27, Try.ntmps27
      go_wp2
      go_ret2
      exact ⟨by first | rfl | (simp; done) | (simp [*]; done), by repeat (first | exact Drawn0.refl _ | apply Drawn0.step)⟩
    · rw [if_neg c4] at H
      have c4b0 : decide (a1 < (a0.size : Int)) = false := decide_eq_false c4
      clear c4
      replace H := Option.bind_eq_some_iff.mp H
      obtain ⟨t138, A50, H⟩ := H
      replace H : (some (t138, 0)) = some (r1, r2) := H
      have A5 := Aside0.mk A50
      clear A50
      simp only [Option.some.injEq, Prod.mk.injEq] at H
      obtain ⟨rfl, rfl⟩ := H
      go_enter Try.func27, Try.ntmps27
      go_wp2_with (first | ((with_reducible refine gate_callee (f := 62) rfl ?_); refine goesL_ (some 15) rfl rfl Try.func62 (by kernel_rfl) rfl #[.string a0] rfl (by (try simp only [List.map_toArray, List.map_cons, List.map_nil]); first | done | rfl | (simp only [List.length_drop, List.length_take]; rfl)) ?_; (with_reducible refine (halyardref01_Value.calls k a0 t138 _ A5.out).mono ?_); rintro e w' ⟨rfl, ⟨nd, rfl⟩⟩; refine ⟨_, rfl, ?_⟩))
      go_ret2
      exact ⟨by first | rfl | (simp; done) | (simp [*]; done), by repeat (first | exact Drawn0.refl _ | apply Drawn0.step)⟩

/-! ### octet_Get32: function 28 -/
def octet_Get32.f (a0 : ByteArray) : Option (Int × Int) := if (a0.size : Int) < 4 then some (0, 6) else if (a0.size : Int) > 4 then some (0, 7) else some (16777216 * bt a0 0 + 65536 * bt a0 1 + 256 * bt a0 2 + bt a0 3, 0)
theorem octet_number.four (a0 : ByteArray) (h : a0.size = 4) : octet_number.f 6 a0 4 = some (16777216 * bt a0 0 + 65536 * bt a0 1 + 256 * bt a0 2 + bt a0 3, 0) := by
  have b0 := bt_range a0 0
  have b1 := bt_range a0 1
  have b2 := bt_range a0 2
  have b3 := bt_range a0 3
  have step : ∀ x y : Int, 0 ≤ x → x < 16777216 → 0 ≤ y → y < 256 → Go.bits .or .u32 (x * 256 % 4294967296) (y % 4294967296) = 256 * x + y := fun x y h0 h1 h2 h3 => by
    rw [show x * 256 % 4294967296 = x * 256 from by omega, show y % 4294967296 = y from by omega,
      Go.bits_join .u32 32 (by decide) (fun n h0 h1 => by rw [IntKind.wrap_u32]; omega) 8 _ _ (by omega) (by omega) (by omega) h2 (by omega) (by omega)]; omega
  have e0 : wrap64 (0 + 1) = 1 := by unfold wrap64; omega
  have e1 : wrap64 (1 + 1) = 2 := by unfold wrap64; omega
  have e2 : wrap64 (2 + 1) = 3 := by unfold wrap64; omega
  have e3 : wrap64 (3 + 1) = 4 := by unfold wrap64; omega
  unfold octet_number.f
  rw [if_neg (by omega), if_neg (by omega)]
  simp only [octet_number.l0, h]
  rw [if_pos (by omega), if_pos (by omega), if_pos (by omega), e0, step 0 (bt a0 0) (by omega) (by omega) (by omega) (by omega),
    if_pos (by omega), if_pos (by omega), if_pos (by omega), e1, step (256 * 0 + bt a0 0) (bt a0 1) (by omega) (by omega) (by omega) (by omega),
    if_pos (by omega), if_pos (by omega), if_pos (by omega), e2, step (256 * (256 * 0 + bt a0 0) + bt a0 1) (bt a0 2) (by omega) (by omega) (by omega) (by omega),
    if_pos (by omega), if_pos (by omega), if_pos (by omega), e3, step (256 * (256 * (256 * 0 + bt a0 0) + bt a0 1) + bt a0 2) (bt a0 3) (by omega) (by omega) (by omega) (by omega), if_neg (by omega)]
  simp only [Option.some.injEq, Prod.mk.injEq, and_true]
  omega
theorem octet_Get32.calls (a0 : ByteArray) (r1 : Int) (r2 : Int) (w : World) (h : octet_Get32.f a0 = some (r1, r2)) :
    Calls Try.prog 28 #[.string a0] w fun e w' => e = .returned (.tuple #[.int .u32 r1, .int .i64 r2]) ∧ Drawn0 w w' := by
  have key : octet_number.f 6 a0 4 = some (r1, r2) := by
    unfold octet_Get32.f at h
    by_cases c1 : (a0.size : Int) < 4
    · rw [if_pos c1] at h
      rw [← h]; unfold octet_number.f; rw [if_pos c1]
    rw [if_neg c1] at h
    by_cases c2 : (a0.size : Int) > 4
    · rw [if_pos c2] at h
      rw [← h]; unfold octet_number.f; rw [if_neg c1, if_pos c2]
    rw [if_neg c2] at h
    rw [← h]
    exact octet_number.four a0 (by omega)
  have A2 := Aside0.mk key
  clear key h
  go_enter Try.func28, Try.ntmps28
  go_wp2_with (go_at_call 61; refine (octet_number.calls 6 a0 4 r1 r2 _ A2.out).mono ?_; rintro e w' ⟨rfl, ⟨nd, rfl⟩⟩)
  go_ret2
  exact ⟨rfl, by repeat (first | exact Drawn0.refl _ | apply Drawn0.step)⟩


/-! ### halyardref01_Num: function 30 -/
def halyardref01_Num.l0 : Nat → Int → Int → ByteArray → Int → Option (ByteArray)
  | 0, _, _, _, _ => none
  | k + 1, x0, x1, x5, x6 => if x6 < x1 then ((some (([(Int.tmod x0 256) % 256] : List Int) : List Int)).bind fun y139 => (if (strOfNums y139).size + x5.size ≤ 9223372036854775807 then (halyardref01_Num.l0 k (IntKind.u64.wrap (Int.tdiv x0 256)) x1 ((strOfNums y139) ++ x5) (wrap64 (x6 + 1))) else (none))) else (some x5)
def halyardref01_Num.f (k : Nat) (a0 : Int) (a1 : Int) : Option (ByteArray) := halyardref01_Num.l0 k a0 a1 (⟨#[]⟩ : ByteArray) 0
theorem halyardref01_Num.mono_l : ∀ k, (∀ y0 y1 y2 y3, LeO (halyardref01_Num.l0 k y0 y1 y2 y3) (halyardref01_Num.l0 (k + 1) y0 y1 y2 y3))
  | 0 => fun _ _ _ _ r h => by simp [halyardref01_Num.l0] at h
  | k + 1 => by
    have ih0 := halyardref01_Num.mono_l k
    · intro y0 y1 y2 y3
      unfold halyardref01_Num.l0
      repeat' first
      | (with_reducible exact ih0 _ _ _ _)
      | (with_reducible exact LeO.refl _)
      | (with_reducible exact LeO.none _)
      | (with_reducible refine LeO.ite ?_ ?_)
      | (with_reducible refine LeO.bind ?_ (fun _ => ?_))
      | exact ih0 _ _ _ _
      | exact LeO.none _
      | refine LeO.ite ?_ ?_
      | refine LeO.bind ?_ (fun _ => ?_)
theorem halyardref01_Num.mono : ∀ a0 a1 k, LeO (halyardref01_Num.f k a0 a1) (halyardref01_Num.f (k + 1) a0 a1) := by
  intro a0 a1 k
  have ih0 := halyardref01_Num.mono_l k
  unfold halyardref01_Num.f
  repeat' first
      | (with_reducible exact ih0 _ _ _ _)
      | (with_reducible exact LeO.refl _)
      | (with_reducible exact LeO.none _)
      | (with_reducible refine LeO.ite ?_ ?_)
      | (with_reducible refine LeO.bind ?_ (fun _ => ?_))
      | exact ih0 _ _ _ _
      | exact LeO.none _
      | refine LeO.ite ?_ ?_
      | refine LeO.bind ?_ (fun _ => ?_)
set_option maxHeartbeats 8000000 in
set_option maxRecDepth 100000 in
theorem halyardref01_Num.calls (k : Nat) (a0 : Int) (a1 : Int) (r : ByteArray) (w : World) (h : halyardref01_Num.f k a0 a1 = some r) :
    Calls Try.prog 30 #[.int .u64 a0, .int .i64 a1] w fun e w' => e = .returned (.string r) ∧ Below w.heap.size w w' := by
  have HB := Aside0.mk (Below.refl w.heap.size w)
  have H : (halyardref01_Num.l0 k a0 a1 (⟨#[]⟩ : ByteArray) 0) = some r := h
  clear h
  have H' := Aside0.mk H
  clear H
  go_enter Try.func30, Try.ntmps30
  go_wp2
  go_loopg [0, 5, 6] k (fun kq v0 v5 v6 w' => ∃ (x0_1 : Int) (x5_1 : ByteArray) (x6_1 : Int), v0 = .int .u64 x0_1 ∧ v5 = .string x5_1 ∧ v6 = .int .i64 x6_1 ∧ Aside0 (halyardref01_Num.l0 kq x0_1 a1 x5_1 x6_1 = some r) ∧ Aside0 (kq ≤ k) ∧ Aside0 (Below w.heap.size w w'))
  case atStart => exact ⟨(a0), ((⟨#[]⟩ : ByteArray)), (0), (by first | rfl | (simp; done) | (simp [*]; done)), (by first | rfl | (simp; done) | (simp [*]; done)), (by first | rfl | (simp; done) | (simp [*]; done)), H', ⟨Nat.le_refl _⟩, ⟨by repeat (first | (with_reducible first | exact HB.out | apply below_alloc | apply pw_below_drewN | apply below_drew1) | exact HB.out)⟩⟩
  case round =>
    clear H'
    try clear p2
    obtain ⟨x0_1, x5_1, x6_1, rfl, rfl, rfl, HA, HK1, HB⟩ := hrel
    cases gk with
    | zero => exact absurd HA.out (by simp [halyardref01_Num.l0])
    | succ k1 =>
      have H := HA.out
      clear HA
      simp only [halyardref01_Num.l0] at H
      by_cases c3 : x6_1 < a1
      · rw [if_pos c3] at H
        have c3b0 : decide (x6_1 < a1) = true := decide_eq_true c3
        clear c3
        obtain ⟨y139, hy139⟩ : ∃ y_ : List Int, y_ = (([(Int.tmod x0_1 256) % 256] : List Int)) := ⟨_, rfl⟩
        replace H : (if (strOfNums y139).size + x5_1.size ≤ 9223372036854775807 then (halyardref01_Num.l0 k1 (IntKind.u64.wrap (Int.tdiv x0_1 256)) a1 ((strOfNums y139) ++ x5_1) (wrap64 (x6_1 + 1))) else (none)) = some r := by first | (rw [hy139]; with_reducible exact H) | (have H2_ := (Option.bind_some _ _).symm.trans H; rw [hy139]; with_reducible exact H2_) | (have H2_ := (Option.bind_some _ _).symm.trans H; with_reducible exact H2_) | with_reducible exact H | (rw [hy139]; exact H) | exact H
        have Ny139 := Aside0.mk hy139
        clear hy139
        by_cases c4 : (strOfNums y139).size + x5_1.size ≤ 9223372036854775807
        · rw [if_pos c4] at H
          have c4b0 := eq_true c4
          have c4b1 : decide ((strOfNums y139).size + x5_1.size ≤ 9223372036854775807) = true := decide_eq_true c4
          try have c4b2 : (9223372036854775807 < (strOfNums y139).size + x5_1.size) = False := eq_false (Nat.not_lt.2 c4)
          have H' := Aside0.mk H
          clear H
          go_wp2_with (first | ((with_reducible refine gate_dst (N := 15) rfl ?_); refine Kd.R_lit (Kd.int .u8) _ 5 ?hg (N := 15) ?hd (xs := ([(Int.tmod x0_1 256) % 256] : List Int)) (inner := [.int .u8 ((Int.tmod x0_1 256) % 256)]) (ok := fun _ => True) (okp := fun _ => True) ?hr ?hp (fun _ hk => hk) trivial (Below.refl _ _) (Nat.le_refl _) (by simp) ?_; (case hd => rfl); (case hg => rfl); (case hr => first | (go_simp; done) | (go_simp; rfl)); (case hp => exact (Reps.one (show Kd.M (Kd.int .u8) _ _ _ ((Int.tmod x0_1 256) % 256) [.int .u8 ((Int.tmod x0_1 256) % 256)] from rfl) (Reps.none _ _))); intro v140 w5 ho6 hb hg_ hnew_; clear hg_ hnew_; (first | rw [← Ny139.out] at ho6 | (simp only [Int.reduceToNat] at ho6; rw [← Ny139.out] at ho6)); have n0_ := Aside0.mk (Kd.R_lower ho6 (below_size (by repeat (first | (with_reducible first | exact HB.out | apply below_alloc | apply pw_below_drewN | apply below_drew1) | exact HB.out)))); have n1_ := Aside0.mk (below_step (by repeat (first | (with_reducible first | exact HB.out | apply below_alloc | apply pw_below_drewN | apply below_drew1) | exact HB.out)) hb); clear HB; have HO141 := n0_; have HB := n1_; clear n0_ n1_; clear hb ho6; have hcv7 := own_string (P := Try.prog) Try.underlying91 Try.underlying5 Try.underlying9 (Kd.own_of_R HO141.out)))
          go_roundg k1
          case measure => have := HK1.out; omega
          case rel => exact ⟨(IntKind.u64.wrap (Int.tdiv x0_1 256)), ((strOfNums y139) ++ x5_1), (wrap64 (x6_1 + 1)), (by first | rfl | (simp; done) | (simp [*]; done)), (by first | rfl | (simp; done) | (simp [*]; done)), (by first | rfl | (simp; done) | (simp [*]; done)), H', ⟨by have := HK1.out; omega⟩, ⟨by repeat (first | (with_reducible first | exact HB.out | apply below_alloc | apply pw_below_drewN | apply below_drew1) | exact HB.out)⟩⟩
        · rw [if_neg c4] at H
          exact absurd H (by simp)
      · rw [if_neg c3] at H
        have c3b0 : decide (x6_1 < a1) = false := decide_eq_false c3
        clear c3
        obtain rfl := Option.some.inj H
        go_wp2
        go_ret
        exact ⟨by first | rfl | (simp [errW_none, errW_some] <;> rfl) | (simp [*, errW_none, errW_some] <;> rfl), by repeat (first | (with_reducible first | exact HB.out | apply below_alloc | apply pw_below_drewN | apply below_drew1) | exact HB.out)⟩

-- NOT PRINTED: function 8 (halyardlaw01_OctetNumbers)

end Go.Proofs.Ytdojpjiiihmdoaa.PG01
