-- WRITTEN by wip/tools/hprint.py: the kit's print.py run over this translation, with functions proved by hand laid in. Lean checks it.
import Derived.Test.YtdlpoemjgeehgaaPG11Tx0
import Derived.Test.YtdlpoemjgeehgaaPG11Tx2
namespace Go.Proofs.Ytdlpoemjgeehgaa.PG11T
open Go.RowKit Go.Proofs.YtdlpoemjgeehgaaW.PrintWords Go.Proofs.YtdlpoemjgeehgaaW.PrintLast Go.Proofs.YtdlpoemjgeehgaaW.PrintMore Go.Proofs.YtdlpoemjgeehgaaHW
attribute [local go_sem] max2_int min2_int max_two min_two max_three min_three max_four min_four   -- for this text's walks alone
set_option linter.unusedVariables false
set_option linter.unusedSimpArgs false

/-! ### packet_Put: function 36 -/
def packet_Put.f (a0_0 a0_1 : Int) (a0_2 : ByteArray) : Option (ByteArray × Int) :=
  if (a0_2.size : Int) > 1496 then some (⟨#[]⟩, 5) else
  some (strOfNums [a0_0, a0_1, ((a0_2.size : Int) + 4) / 256, ((a0_2.size : Int) + 4) % 256] ++ a0_2, 0)

set_option maxRecDepth 100000 in
set_option maxHeartbeats 400000 in
theorem packet_Put.calls (a0_0 a0_1 : Int) (a0_2 : ByteArray) (r1 : ByteArray) (r2 : Int) (w : World) (h : packet_Put.f a0_0 a0_1 a0_2 = some (r1, r2)) :
    Calls Try.prog 36 #[.agg #[.int .u8 a0_0, .int .u8 a0_1, .string a0_2]] w fun e w' => e = .returned (.tuple #[.string r1, .int .i64 r2]) ∧ Below w.heap.size w w' := by
  have huP := Try.underlying25
  have huA := Try.underlying102
  have huS := Try.underlying98
  have HB := Aside0.mk (Below.refl w.heap.size w)
  unfold packet_Put.f at h
  by_cases c1 : (a0_2.size : Int) > 1496
  · rw [if_pos c1] at h
    simp only [Option.some.injEq, Prod.mk.injEq] at h
    obtain ⟨rfl, rfl⟩ := h
    go_enter Try.func36, Try.ntmps36
    go_wp2_with fail
    go_ret2
    exact ⟨rfl, by repeat (first | (with_reducible first | exact HB.out | apply below_alloc | apply pw_below_drewN | apply below_drew1))⟩
  rw [if_neg c1] at h
  simp only [Option.some.injEq, Prod.mk.injEq] at h
  obtain ⟨rfl, rfl⟩ := h
  have hs' : (a0_2.size : Int) ≤ 1496 := by omega
  obtain ⟨n, hn⟩ : ∃ n : Int, n = (a0_2.size : Int) + 4 := ⟨_, rfl⟩
  have hw16 : IntKind.u16.wrap (IntKind.i64.wrap ((a0_2.size : Int) + 4)) = n := by
    rw [IntKind.wrap_i64, show ∀ n : Int, IntKind.u16.wrap n = n % 65536 from fun n => by simp [IntKind.wrap, IntKind.bits, IntKind.signed]]; omega
  rw [← hn]
  have hn0 : 4 ≤ n := by omega
  have hn1 : n ≤ 1500 := by omega
  obtain ⟨r, hr⟩ : ∃ r, r = strOfNums [n / 256, n % 256] := ⟨_, rfl⟩
  have HR := Aside0.mk (show octet_Put16.f n = some r by rw [hr]; unfold octet_Put16.f; rw [show n / 256 % 256 = n / 256 from by omega])
  have HR2 := Aside0.mk (show r.size = 2 by rw [hr]; simp [strOfNums, ByteArray.size])
  have HR3 := Aside0.mk (show Lib.byteCells r.data.toList = [.int .u8 (n / 256), .int .u8 (n % 256)] by
    rw [hr]; simp [strOfNums, Lib.byteCells]; omega)
  replace hr := Aside0.mk hr
  clear hn
  obtain ⟨hd, hhd⟩ : ∃ hd, hd = strOfNums [a0_0, a0_1, n / 256, n % 256] := ⟨_, rfl⟩
  have hds : hd.size = 4 := by rw [hhd]; simp [strOfNums, ByteArray.size]
  have hdn : ¬ 9223372036854775807 < hd.size + a0_2.size := by omega
  rw [← hhd]
  replace hhd := Aside0.mk hhd
  clear hds
  go_enter Try.func36, Try.ntmps36
  go_wp2_with fail
  go_region_law (first | (go_simp; go_at_call 74; (with_reducible refine (octet_Put16.calls _ r _ HR.out).mono ?_); rintro e w1 ⟨rfl, hb⟩) | (go_must (refine hw_copy_str rfl (.tmp 14) (.tmp 20) 98 9 rfl 5 Try.underlying98 (by kernel_rfl) (w.heap.size + 1) 2 2 2 rfl r rfl (by rw [HR2.out]; exact Nat.le_refl _) #[.int .u8 a0_0, .int .u8 a0_1, .int .u8 0, .int .u8 0] 102 (hw_below (blk_drew (hw_at (by simp) _)) hb) (by rw [HR2.out]; exact Nat.le_refl _) ?_); intro w2 hb2 ho2 hz2 hB2))
  rw [HR3.out, HR2.out] at hb2
  have hb2' : w2.heap[w.heap.size + 1]? = some (.cells #[.int .u8 a0_0, .int .u8 a0_1, .int .u8 (n / 256), .int .u8 (n % 256)] 102 (0, 0)) := hb2
  have hb0 : w2.heap[w.heap.size]? = some (.cells #[.int .u8 a0_0, .int .u8 a0_1, .string a0_2] 25 (0, 0)) := by
    rw [ho2 _ (by omega)]; exact hw_below (blk_drew (blk_alloc (blk_new w _) _)) hb
  have hB := Aside0.mk (hB2 w.heap.size w (by omega) (below_step (below_drew (below_alloc (below_alloc HB.out _) _)) hb))
  have hcv : ∀ m, (convert 98 9 (.slice (some ⟨w.heap.size + 1, 0, none⟩) 4 4)).run Try.prog (w2.drewN m) = .ok (.string hd) (w2.drewN m) := fun m => by
    rw [hhd.out]
    refine string_of_reads Try.underlying98 Try.underlying5 Try.underlying9 ⟨rfl, by decide, fun _ => ⟨_, rfl, fun j hj => ?_⟩⟩
    have : j = 0 ∨ j = 1 ∨ j = 2 ∨ j = 3 := by omega
    rcases this with rfl | rfl | rfl | rfl <;> exact blk_cell (w := w2.drewN m) hb2' _
  have hcv1 := hcv 1
  change Sem.run _ _ w2.drew = .ok _ w2.drew at hcv1
  clear hcv
  have hc2 : w2.cell? ⟨w.heap.size, 2, none⟩ = some (.string a0_2) := blk_cell hb0 2
  replace hb0 := Aside0.mk hb0
  replace hb2' := Aside0.mk hb2'
  clear hb2 ho2 hz2 hB2 hb
  go_wp2_with fail
  go_region
  go_wp2
  go_ret2
  exact ⟨rfl, by repeat (first | (with_reducible first | exact hB.out | apply below_alloc | apply pw_below_drewN | apply below_drew1 | apply below_drew))⟩


end Go.Proofs.Ytdlpoemjgeehgaa.PG11T
