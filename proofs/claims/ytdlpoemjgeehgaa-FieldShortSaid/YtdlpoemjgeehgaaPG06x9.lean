-- WRITTEN by wip/tools/hprint.py: the kit's print.py run over this translation, with functions proved by hand laid in. Lean checks it.
import Derived.Test.YtdlpoemjgeehgaaPG06x0
import Derived.Test.YtdlpoemjgeehgaaPG06x1
import Derived.Test.YtdlpoemjgeehgaaPG06x8
namespace Go.Proofs.Ytdlpoemjgeehgaa.PG06
open Go.RowKit Go.Proofs.YtdlpoemjgeehgaaW.PrintWords Go.Proofs.YtdlpoemjgeehgaaW.PrintLast Go.Proofs.YtdlpoemjgeehgaaW.PrintMore Go.Proofs.YtdlpoemjgeehgaaHW
attribute [local go_sem] max2_int min2_int max_two min_two max_three min_three max_four min_four   -- for this text's walks alone
set_option linter.unusedVariables false
set_option linter.unusedSimpArgs false

/-! ### field_Get: function 29 -/
theorem field_Get.wp_bytes {P : Program} (w : World) {ops : Array Oper} {rest : List Oper} {o : Oper} {a : Act} {Q : Exit → Act → World → Prop}
    (hg : o.guard = none) (x : Operand) (src dst e : TypeId) (hop : o.op = Op.convert src dst x) (hs : P.underlying src = some .string) (hd : P.underlying dst = some (.slice e)) (he : P.underlying e = some (.int .u8)) (s : ByteArray) (hx : a.eval x = .string s)
    (hK : ∀ (w1 : World) (cap : Nat), (∀ j : Nat, j < s.size → w1.cell? ⟨w.heap.size, j, none⟩ = some (.int .u8 (bt s j))) → Below w.heap.size w w1 → wpList P ops Q rest (a.put o.dst (.slice (some ⟨w.heap.size, 0, none⟩) s.size cap)) w1) :
    wpList P ops Q (o :: rest) a w := by
  refine wpList_plain hg fun K' hK' => ?_
  unfold Oper.wp
  simp [execOp, hop, hx, Lib.run_convert_string_bytes w src dst e s hs hd he, Result.andThen]
  refine hK' _ _ (hK _ _ (fun j hj => ?_) ⟨?_, ?_, ?_, ?_, fun k hk => Lib.bytesWorld_at_old w e s k hk⟩)
  · rw [Lib.bytesWorld_cell w e s j hj]
    unfold bt
    rw [dif_pos (by simpa using hj)]
    simp [List.getD, hj, ByteArray.getElem_eq_getElem_data]
  · simp [Lib.bytesWorld, World.freeze, World.alloc, World.drew, -World.alloc_eq, -World.drew_eq]
  · simp [Lib.bytesWorld, World.freeze, World.alloc, World.drew, -World.alloc_eq, -World.drew_eq]
  · simp [Lib.bytesWorld, World.freeze, World.alloc, World.drew, -World.alloc_eq, -World.drew_eq]
  · rw [Lib.bytesWorld_size]; omega
def field_Get.tail (p : Int) (rest : ByteArray) : Option (Int × ByteArray × Int) :=
  (field_May.f p).bind fun m => if m = true then some (p, rest, 0) else some (0, ⟨#[]⟩, 7)
def field_Get.g (t : ByteArray) : Option (Int × ByteArray × Int) :=
  if t.size = 0 then some (0, ⟨#[]⟩, 6) else
  if bt t 0 % 2 = 1 then field_Get.tail (bt t 0) (t.extract 1 t.size) else
  if t.size < 2 then some (0, ⟨#[]⟩, 6) else
  field_Get.tail (bt t 0 * 256 + bt t 1) (t.extract 2 t.size)
def field_Get.f (a0 : ByteArray) : Option (Int × ByteArray × Int) := (strings_TrimPrefix.f a0 ⟨#[255, 3]⟩).bind field_Get.g
set_option maxRecDepth 100000 in
set_option maxHeartbeats 1000000 in
theorem field_Get.calls (a0 : ByteArray) (r1 : Int) (r2 : ByteArray) (r3 : Int) (w : World) (h : field_Get.f a0 = some (r1, r2, r3)) :
    Calls Try.prog 29 #[.string a0] w fun e w' => e = .returned (.tuple #[.int .u16 r1, .string r2, .int .i64 r3]) ∧ Below w.heap.size w w' := by
  have HB := Aside0.mk (Below.refl w.heap.size w)
  unfold field_Get.f at h
  replace h := Option.bind_eq_some_iff.mp h
  obtain ⟨t, ht, h⟩ := h
  have HT := Aside0.mk ht
  clear ht
  unfold field_Get.g at h
  by_cases c1 : t.size = 0
  · rw [if_pos c1] at h
    simp only [Option.some.injEq, Prod.mk.injEq] at h
    obtain ⟨rfl, rfl, rfl⟩ := h
    obtain rfl : t = ⟨#[]⟩ := ByteArray.ext (Array.eq_empty_of_size_eq_zero c1)
    clear c1
    go_enter Try.func29, Try.ntmps29
    go_wp2_with (go_at_call 76; (with_reducible refine (strings_TrimPrefix.calls _ _ _ _ HT.out).mono ?_); rintro e w1 ⟨rfl, ⟨nd1, rfl⟩⟩)
    go_ret3
    exact ⟨rfl, pw_below_drewN HB.out nd1⟩
  rw [if_neg c1] at h
  have c1s : 0 < t.size := by omega
  have e1 : ¬ t.toList = [] := fun h_ => c1 (by have := congrArg List.length h_; rw [ByteArray.toList_eq] at this; simpa using this)
  have e2 : (!t.toList.isEmpty) = true := by cases hq : t.toList with | nil => exact absurd hq e1 | cons a b => rfl
  have b0 := bt_range t 0
  have b1 := bt_range t 1
  have g0 : (t[0]'c1s).toNat = bt t 0 := by rw [← bt_at t 0 c1s]; rfl
  have a0b : ((t[0]'c1s).toNat : Int) < 256 := by omega
  have k0 : Go.bits .and .u8 ((t[0]'c1s).toNat : Int) 1 = bt t 0 % 2 := by
    rw [g0]; exact Go.bits_mask .u8 8 (by decide) (fun n h0 h1 => by rw [IntKind.wrap_u8]; omega) 1 (by omega) _ (by omega) (by omega)
  have o1 : Go.bits .or .u16 0 (bt t 0) = bt t 0 := by
    have q := Go.bits_join .u16 16 (by decide) (fun n h0 h1 => by rw [IntKind.wrap_u16]; omega) 8 0 (bt t 0) (by omega) (by omega) (by omega) (by omega) (by omega) (by omega)
    simpa using q
  by_cases c2 : bt t 0 % 2 = 1
  · rw [if_pos c2] at h
    unfold field_Get.tail at h
    replace h := Option.bind_eq_some_iff.mp h
    obtain ⟨m, hm, h⟩ := h
    have HM := Aside0.mk hm
    have d1 : decide ((t.size : Int) < 1) = false := decide_eq_false (by omega)
    have m1 : min 1 t.size = 1 := by omega
    have k1 : (Go.bits .and .u8 ((t[0]'c1s).toNat : Int) 1 == 1) = true := by rw [k0, c2]; rfl
    have X0 := Aside0.mk (show bt (t.extract 0 1) ((0 : Nat) : Int) = bt t 0 from hw_bt_x t 0 1 0 (by rw [ByteArray.size_extract]; simp; omega))
    clear c2 g0 k0 hm
    cases m with
    | false =>
      rw [if_neg (by simp)] at h
      simp only [Option.some.injEq, Prod.mk.injEq] at h
      obtain ⟨rfl, rfl, rfl⟩ := h
      go_enter Try.func29, Try.ntmps29
      go_wp2_with (first | (go_at_call 76; (with_reducible refine (strings_TrimPrefix.calls _ _ _ _ HT.out).mono ?_); rintro e w1 ⟨rfl, ⟨nd1, rfl⟩⟩) | (refine field_Get.wp_bytes _ rfl _ 9 98 5 rfl Try.underlying9 Try.underlying98 Try.underlying5 _ rfl ?_; intro w1 cap hcl hb1; replace HB := Aside0.mk (below_step (pw_below_drewN HB.out nd1) hb1); clear hb1))
      have hc0 : w1.cell? ⟨w.heap.size, 0, none⟩ = some (.int .u8 (bt t 0)) := by rw [← X0.out]; exact hcl 0 (by rw [ByteArray.size_extract]; omega)
      clear hcl
      refine wp_loop_rounds 2 ?_
      rw [rounds_succ]
      go_wp2_with fail
      rw [rounds_succ]
      go_wp2_with (go_at_call 31; (with_reducible refine (field_May.calls _ _ _ HM.out).mono ?_); rintro e w2 ⟨rfl, ⟨nd2, rfl⟩⟩)
      repeat (go_quiet (fail); try go_wp2)
      go_ret3
      exact ⟨rfl, by repeat (first | exact HB.out | apply pw_below_drewN)⟩
    | true =>
      rw [if_pos rfl] at h
      simp only [Option.some.injEq, Prod.mk.injEq] at h
      obtain ⟨rfl, rfl, rfl⟩ := h
      go_enter Try.func29, Try.ntmps29
      go_wp2_with (first | (go_at_call 76; (with_reducible refine (strings_TrimPrefix.calls _ _ _ _ HT.out).mono ?_); rintro e w1 ⟨rfl, ⟨nd1, rfl⟩⟩) | (refine field_Get.wp_bytes _ rfl _ 9 98 5 rfl Try.underlying9 Try.underlying98 Try.underlying5 _ rfl ?_; intro w1 cap hcl hb1; replace HB := Aside0.mk (below_step (pw_below_drewN HB.out nd1) hb1); clear hb1))
      have hc0 : w1.cell? ⟨w.heap.size, 0, none⟩ = some (.int .u8 (bt t 0)) := by rw [← X0.out]; exact hcl 0 (by rw [ByteArray.size_extract]; omega)
      clear hcl
      refine wp_loop_rounds 2 ?_
      rw [rounds_succ]
      go_wp2_with fail
      rw [rounds_succ]
      go_wp2_with (go_at_call 31; (with_reducible refine (field_May.calls _ _ _ HM.out).mono ?_); rintro e w2 ⟨rfl, ⟨nd2, rfl⟩⟩)
      repeat (go_quiet (fail); try go_wp2)
      go_ret3
      exact ⟨rfl, by repeat (first | exact HB.out | apply pw_below_drewN)⟩
  rw [if_neg c2] at h
  have k1 : (Go.bits .and .u8 ((t[0]'c1s).toNat : Int) 1 == 1) = false := by rw [k0, show bt t 0 % 2 = 0 from by omega]; rfl
  by_cases c3 : t.size < 2
  · rw [if_pos c3] at h
    simp only [Option.some.injEq, Prod.mk.injEq] at h
    obtain ⟨rfl, rfl, rfl⟩ := h
    have d1 : decide ((t.size : Int) < 2) = true := decide_eq_true (by omega)
    clear c2 g0 k0 o1
    go_enter Try.func29, Try.ntmps29
    go_wp2_with (go_at_call 76; (with_reducible refine (strings_TrimPrefix.calls _ _ _ _ HT.out).mono ?_); rintro e w1 ⟨rfl, ⟨nd1, rfl⟩⟩)
    go_ret3
    exact ⟨rfl, pw_below_drewN HB.out nd1⟩
  · rw [if_neg c3] at h
    unfold field_Get.tail at h
    replace h := Option.bind_eq_some_iff.mp h
    obtain ⟨m, hm, h⟩ := h
    have HM := Aside0.mk hm
    have d1 : decide ((t.size : Int) < 2) = false := decide_eq_false (by omega)
    have m1 : min 2 t.size = 2 := by omega
    have o2 : Go.bits .or .u16 (bt t 0 * 256) (bt t 1) = bt t 0 * 256 + bt t 1 := 
      Go.bits_join .u16 16 (by decide) (fun n h0 h1 => by rw [IntKind.wrap_u16]; omega) 8 (bt t 0 * 256) (bt t 1) (by omega) (by omega) (by omega) (by omega) (by omega) (by omega)
    have X0 := Aside0.mk (show bt (t.extract 0 2) ((0 : Nat) : Int) = bt t 0 from hw_bt_x t 0 2 0 (by rw [ByteArray.size_extract]; simp; omega))
    have X1 := Aside0.mk (show bt (t.extract 0 2) ((1 : Nat) : Int) = bt t 1 from hw_bt_x t 0 2 1 (by rw [ByteArray.size_extract]; simp; omega))
    clear c2 g0 k0 hm
    cases m with
    | false =>
      rw [if_neg (by simp)] at h
      simp only [Option.some.injEq, Prod.mk.injEq] at h
      obtain ⟨rfl, rfl, rfl⟩ := h
      go_enter Try.func29, Try.ntmps29
      go_wp2_with (first | (go_at_call 76; (with_reducible refine (strings_TrimPrefix.calls _ _ _ _ HT.out).mono ?_); rintro e w1 ⟨rfl, ⟨nd1, rfl⟩⟩) | (refine field_Get.wp_bytes _ rfl _ 9 98 5 rfl Try.underlying9 Try.underlying98 Try.underlying5 _ rfl ?_; intro w1 cap hcl hb1; replace HB := Aside0.mk (below_step (pw_below_drewN HB.out nd1) hb1); clear hb1))
      have hc0 : w1.cell? ⟨w.heap.size, 0, none⟩ = some (.int .u8 (bt t 0)) := by rw [← X0.out]; exact hcl 0 (by rw [ByteArray.size_extract]; omega)
      have hc1 : w1.cell? ⟨w.heap.size, 1, none⟩ = some (.int .u8 (bt t 1)) := by rw [← X1.out]; exact hcl 1 (by rw [ByteArray.size_extract]; omega)
      clear hcl
      refine wp_loop_rounds 3 ?_
      rw [rounds_succ]
      go_wp2_with fail
      rw [rounds_succ]
      go_wp2_with fail
      rw [rounds_succ]
      go_wp2_with (go_at_call 31; (with_reducible refine (field_May.calls _ _ _ HM.out).mono ?_); rintro e w2 ⟨rfl, ⟨nd2, rfl⟩⟩)
      repeat (go_quiet (fail); try go_wp2)
      go_ret3
      exact ⟨rfl, by repeat (first | exact HB.out | apply pw_below_drewN)⟩
    | true =>
      rw [if_pos rfl] at h
      simp only [Option.some.injEq, Prod.mk.injEq] at h
      obtain ⟨rfl, rfl, rfl⟩ := h
      go_enter Try.func29, Try.ntmps29
      go_wp2_with (first | (go_at_call 76; (with_reducible refine (strings_TrimPrefix.calls _ _ _ _ HT.out).mono ?_); rintro e w1 ⟨rfl, ⟨nd1, rfl⟩⟩) | (refine field_Get.wp_bytes _ rfl _ 9 98 5 rfl Try.underlying9 Try.underlying98 Try.underlying5 _ rfl ?_; intro w1 cap hcl hb1; replace HB := Aside0.mk (below_step (pw_below_drewN HB.out nd1) hb1); clear hb1))
      have hc0 : w1.cell? ⟨w.heap.size, 0, none⟩ = some (.int .u8 (bt t 0)) := by rw [← X0.out]; exact hcl 0 (by rw [ByteArray.size_extract]; omega)
      have hc1 : w1.cell? ⟨w.heap.size, 1, none⟩ = some (.int .u8 (bt t 1)) := by rw [← X1.out]; exact hcl 1 (by rw [ByteArray.size_extract]; omega)
      clear hcl
      refine wp_loop_rounds 3 ?_
      rw [rounds_succ]
      go_wp2_with fail
      rw [rounds_succ]
      go_wp2_with fail
      rw [rounds_succ]
      go_wp2_with (go_at_call 31; (with_reducible refine (field_May.calls _ _ _ HM.out).mono ?_); rintro e w2 ⟨rfl, ⟨nd2, rfl⟩⟩)
      repeat (go_quiet (fail); try go_wp2)
      go_ret3
      exact ⟨rfl, by repeat (first | exact HB.out | apply pw_below_drewN)⟩


end Go.Proofs.Ytdlpoemjgeehgaa.PG06
