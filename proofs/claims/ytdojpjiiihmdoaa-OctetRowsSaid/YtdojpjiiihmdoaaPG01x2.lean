-- WRITTEN by wip/tools/hprint.py: the kit's print.py run over this translation, with functions proved by hand laid in. Lean checks it.
import Derived.Test.YtdojpjiiihmdoaaPG01x0
import Derived.Test.YtdojpjiiihmdoaaPG01x1
namespace Go.Proofs.Ytdojpjiiihmdoaa.PG01
open Go.RowKit Go.Proofs.YtdojpjiiihmdoaaW.PrintWords Go.Proofs.YtdojpjiiihmdoaaW.PrintLast Go.Proofs.YtdojpjiiihmdoaaW.PrintMore Go.Proofs.YtdojpjiiihmdoaaHW
attribute [local go_sem] max2_int min2_int max_two min_two max_three min_three max_four min_four   -- for this text's walks alone
set_option linter.unusedVariables false
set_option linter.unusedSimpArgs false

/-! ### octet_Get16: function 26 -/
def octet_Get16.f (a0 : ByteArray) : Option (Int × Int) := if (a0.size : Int) < 2 then some (0, 6) else if (a0.size : Int) > 2 then some (0, 7) else some (256 * bt a0 0 + bt a0 1, 0)
theorem octet_or8 (x y : Int) (hx0 : 0 ≤ x) (hx1 : x < 16777216) (hy0 : 0 ≤ y) (hy1 : y < 256) : Go.bits .or .u32 (x * 256) y = x * 256 + y :=
  Go.bits_join .u32 32 (by decide) (fun n h0 h1 => by rw [IntKind.wrap_u32]; omega) 8 _ _ (by omega) (by omega) (by omega) hy0 (by omega) (by omega)
theorem octet_number.two (a0 : ByteArray) (h : a0.size = 2) : octet_number.f 5 a0 2 = some (256 * bt a0 0 + bt a0 1, 0) := by
  have b0 := bt_range a0 0
  have b1 := bt_range a0 1
  have e0 : wrap64 (0 + 1) = 1 := by unfold wrap64; omega
  have e1 : wrap64 (1 + 1) = 2 := by unfold wrap64; omega
  have f0 : Go.bits .or .u32 (0 * 256 % 4294967296) (bt a0 0 % 4294967296) = bt a0 0 := by
    rw [show (0 * 256 % 4294967296 : Int) = 0 * 256 from rfl, show bt a0 0 % 4294967296 = bt a0 0 from by omega, octet_or8 0 _ (by omega) (by omega) (by omega) (by omega)]; omega
  have f1 : Go.bits .or .u32 (bt a0 0 * 256 % 4294967296) (bt a0 1 % 4294967296) = 256 * bt a0 0 + bt a0 1 := by
    rw [show bt a0 0 * 256 % 4294967296 = bt a0 0 * 256 from by omega, show bt a0 1 % 4294967296 = bt a0 1 from by omega, octet_or8 _ _ (by omega) (by omega) (by omega) (by omega)]; omega
  unfold octet_number.f
  rw [if_neg (by omega), if_neg (by omega)]
  simp only [octet_number.l0, h]
  rw [if_pos (by omega), if_pos (by omega), if_pos (by omega), e0, f0, if_pos (by omega), if_pos (by omega), if_pos (by omega), e1, f1, if_neg (by omega)]
theorem octet_Get16.calls (a0 : ByteArray) (r1 : Int) (r2 : Int) (w : World) (h : octet_Get16.f a0 = some (r1, r2)) :
    Calls Try.prog 26 #[.string a0] w fun e w' => e = .returned (.tuple #[.int .u16 r1, .int .i64 r2]) ∧ Drawn0 w w' := by
  have key : ∃ v, octet_number.f 5 a0 2 = some (v, r2) ∧ IntKind.u16.wrap v = r1 := by
    unfold octet_Get16.f at h
    by_cases c1 : (a0.size : Int) < 2
    · rw [if_pos c1] at h
      simp only [Option.some.injEq, Prod.mk.injEq] at h
      obtain ⟨rfl, rfl⟩ := h
      exact ⟨0, by unfold octet_number.f; rw [if_pos c1], rfl⟩
    rw [if_neg c1] at h
    by_cases c2 : (a0.size : Int) > 2
    · rw [if_pos c2] at h
      simp only [Option.some.injEq, Prod.mk.injEq] at h
      obtain ⟨rfl, rfl⟩ := h
      exact ⟨0, by unfold octet_number.f; rw [if_neg c1, if_pos c2], rfl⟩
    rw [if_neg c2] at h
    simp only [Option.some.injEq, Prod.mk.injEq] at h
    obtain ⟨rfl, rfl⟩ := h
    have b0 := bt_range a0 0
    have b1 := bt_range a0 1
    exact ⟨_, octet_number.two a0 (by omega), by rw [show ∀ n : Int, IntKind.u16.wrap n = n % 65536 from fun n => by simp [IntKind.wrap, IntKind.bits, IntKind.signed]]; omega⟩
  obtain ⟨v, hv, rfl⟩ := key
  have A2 := Aside0.mk hv
  clear hv h
  go_enter Try.func26, Try.ntmps26
  go_wp2_with (go_at_call 61; refine (octet_number.calls 5 a0 2 v r2 _ A2.out).mono ?_; rintro e w' ⟨rfl, ⟨nd, rfl⟩⟩)
  go_ret2
  exact ⟨rfl, by repeat (first | exact Drawn0.refl _ | apply Drawn0.step)⟩


/-! ### octet_Put16: function 29 -/
def octet_Put16.f (a0 : Int) : Option (ByteArray) := some (strOfNums (([(a0 / 256) % 256, (a0) % 256] : List Int)))
set_option maxHeartbeats 8000000 in
set_option maxRecDepth 100000 in
theorem octet_Put16.calls (a0 : Int) (r : ByteArray) (w : World) (h : octet_Put16.f a0 = some r) :
    Calls Try.prog 29 #[.int .u16 a0] w fun e w' => e = .returned (.string r) ∧ Below w.heap.size w w' := by
  have HB := Aside0.mk (Below.refl w.heap.size w)
  have H : (some (strOfNums (([(a0 / 256) % 256, (a0) % 256] : List Int)))) = some r := h
  clear h
  obtain ⟨y101, hy101⟩ : ∃ y_ : List Int, y_ = (([(a0 / 256) % 256, (a0) % 256] : List Int)) := ⟨_, rfl⟩
  replace H : (some (strOfNums y101)) = some r := by first | (rw [hy101]; with_reducible exact H) | (have H2_ := (Option.bind_some _ _).symm.trans H; rw [hy101]; with_reducible exact H2_) | (have H2_ := (Option.bind_some _ _).symm.trans H; with_reducible exact H2_) | with_reducible exact H | (rw [hy101]; exact H) | exact H
  have Ny101 := Aside0.mk hy101
  clear hy101
  obtain rfl := Option.some.inj H
  go_enter Try.func29, Try.ntmps29
  go_wp2_with (first | ((with_reducible refine gate_dst (N := 8) rfl ?_); refine Kd.R_lit (Kd.int .u8) _ 5 ?hg (N := 8) ?hd (xs := ([(a0 / 256) % 256, (a0) % 256] : List Int)) (inner := [.int .u8 ((a0 / 256) % 256), .int .u8 ((a0) % 256)]) (ok := fun _ => True) (okp := fun _ => True) ?hr ?hp (fun _ hk => hk) trivial (Below.refl _ _) (Nat.le_refl _) (by simp) ?_; (case hd => rfl); (case hg => rfl); (case hr => first | (go_simp; done) | (go_simp; rfl)); (case hp => exact (Reps.one (show Kd.M (Kd.int .u8) _ _ _ ((a0 / 256) % 256) [.int .u8 ((a0 / 256) % 256)] from rfl) (Reps.one (show Kd.M (Kd.int .u8) _ _ _ ((a0) % 256) [.int .u8 ((a0) % 256)] from rfl) (Reps.none _ _)))); intro v102 w2 ho3 hb hg_ hnew_; clear hg_ hnew_; (first | rw [← Ny101.out] at ho3 | (simp only [Int.reduceToNat] at ho3; rw [← Ny101.out] at ho3)); have n0_ := Aside0.mk (Kd.R_lower ho3 (below_size (by repeat (first | (with_reducible first | exact HB.out | apply below_alloc | apply pw_below_drewN | apply below_drew1) | exact HB.out)))); have n1_ := Aside0.mk (below_step (by repeat (first | (with_reducible first | exact HB.out | apply below_alloc | apply pw_below_drewN | apply below_drew1) | exact HB.out)) hb); clear HB; have HO103 := n0_; have HB := n1_; clear n0_ n1_; clear hb ho3; have hcv4 := own_string (P := Try.prog) Try.underlying91 Try.underlying5 Try.underlying9 (Kd.own_of_R HO103.out)))
  go_ret
  exact ⟨by first | rfl | (simp [errW_none, errW_some] <;> rfl) | (simp [*, errW_none, errW_some] <;> rfl), by repeat (first | (with_reducible first | exact HB.out | apply below_alloc | apply pw_below_drewN | apply below_drew1) | exact HB.out)⟩

/-! ### octet_Put32: function 31 -/
def octet_Put32.f (a0 : Int) : Option (ByteArray) := some (strOfNums ([(a0 / 16777216) % 256, (a0 / 65536) % 256, (a0 / 256) % 256, a0 % 256] : List Int))
set_option maxRecDepth 100000 in
set_option maxHeartbeats 1000000 in
theorem octet_Put32.calls (a0 : Int) (r : ByteArray) (w : World) (h : octet_Put32.f a0 = some r) :
    Calls Try.prog 31 #[.int .u32 a0] w fun e w' => e = .returned (.string r) ∧ Below w.heap.size w w' := by
  have huA := Try.underlying90
  have huS := Try.underlying91
  have HB := Aside0.mk (Below.refl w.heap.size w)
  obtain rfl := Option.some.inj h
  clear h
  go_enter Try.func31, Try.ntmps31
  go_wp2_with fail
  refine wp_loop_rounds 5 ?_
  rw [rounds_succ]
  go_wp2_with fail
  rw [rounds_succ]
  go_wp2_with fail
  rw [rounds_succ]
  go_wp2_with fail
  rw [rounds_succ]
  go_wp2_with fail
  have hcv : (convert 91 9 (.slice (some ⟨w.heap.size, 0, none⟩) 4 4)).run Try.prog (w.alloc (.cells #[.int .u8 (a0 / 16777216 % 256), .int .u8 (a0 / 65536 % 256), .int .u8 (a0 / 256 % 256), .int .u8 (a0 % 256)] 90)) = .ok (.string (strOfNums [a0 / 16777216 % 256, a0 / 65536 % 256, a0 / 256 % 256, a0 % 256])) _ :=
    hw_conv [a0 / 16777216 % 256, a0 / 65536 % 256, a0 / 256 % 256, a0 % 256] Try.underlying91 Try.underlying5 Try.underlying9 (by simp) (blk_new w _)
  rw [rounds_succ]
  go_wp2
  go_ret
  exact ⟨rfl, by repeat (first | (with_reducible first | exact HB.out | apply below_alloc))⟩


end Go.Proofs.Ytdojpjiiihmdoaa.PG01
