-- WRITTEN by wip/tools/hprint.py: the kit's print.py run over this translation, with functions proved by hand laid in. Lean checks it.
import Derived.Test.YtdlpoemjgeehgaaPG18x0
import Derived.Test.YtdlpoemjgeehgaaPG18x14
namespace Go.Proofs.Ytdlpoemjgeehgaa.PG18
open Go.RowKit Go.Proofs.YtdlpoemjgeehgaaW.PrintWords Go.Proofs.YtdlpoemjgeehgaaW.PrintLast Go.Proofs.YtdlpoemjgeehgaaW.PrintMore Go.Proofs.YtdlpoemjgeehgaaHW
attribute [local go_sem] max2_int min2_int max_two min_two max_three min_three max_four min_four   -- for this text's walks alone
set_option linter.unusedVariables false
set_option linter.unusedSimpArgs false

/-! ### halyardref01_Text8: function 71 -/
def halyardref01_Text8.f (a0 : ByteArray) : Option (ByteArray × Int) := if (a0.size : Int) > 255 then some (⟨#[]⟩, 5) else some (strOfNums [(a0.size : Int)] ++ a0, 0)
theorem hw_append_nil (a : ByteArray) : a ++ (⟨#[]⟩ : ByteArray) = a := ByteArray.append_empty
theorem halyardref01_Num.one (n : Int) (h0 : 0 ≤ n) (h1 : n ≤ 255) : halyardref01_Num.f 2 n 1 = some (strOfNums [n]) := by
  unfold halyardref01_Num.f
  simp only [halyardref01_Num.l0, Option.bind_some]
  rw [if_pos (by omega), if_pos (by rw [hw_strs]; exact (by decide : 1 + 0 ≤ 9223372036854775807)), show wrap64 (0 + 1) = 1 from by unfold wrap64; omega, if_neg (by omega), hw_append_nil, show Int.tmod n 256 % 256 = n from by rw [Int.tmod_eq_emod_of_nonneg h0]; omega]
set_option maxRecDepth 100000 in
set_option maxHeartbeats 400000 in
theorem halyardref01_Text8.calls (a0 : ByteArray) (r1 : ByteArray) (r2 : Int) (w : World) (h : halyardref01_Text8.f a0 = some (r1, r2)) :
    Calls Try.prog 71 #[.string a0] w fun e w' => e = .returned (.tuple #[.string r1, .int .i64 r2]) ∧ Below w.heap.size w w' := by
  have HB := Aside0.mk (Below.refl w.heap.size w)
  unfold halyardref01_Text8.f at h
  by_cases c1 : (a0.size : Int) > 255
  · rw [if_pos c1] at h
    simp only [Option.some.injEq, Prod.mk.injEq] at h
    obtain ⟨rfl, rfl⟩ := h
    go_enter Try.func71, Try.ntmps71
    go_wp2_with fail
    go_ret2
    exact ⟨rfl, HB.out⟩
  rw [if_neg c1] at h
  simp only [Option.some.injEq, Prod.mk.injEq] at h
  obtain ⟨rfl, rfl⟩ := h
  have c1' : (a0.size : Int) ≤ 255 := by omega
  have HN := Aside0.mk (halyardref01_Num.one (a0.size : Int) (by omega) c1')
  have hwr : IntKind.u64.wrap (a0.size : Int) = a0.size := by
    rw [show ∀ n : Int, IntKind.u64.wrap n = n % 18446744073709551616 from fun n => by simp [IntKind.wrap, IntKind.bits, IntKind.signed]]; omega
  obtain ⟨t, ht⟩ : ∃ t, t = strOfNums [(a0.size : Int)] := ⟨_, rfl⟩
  have hts : ¬ 9223372036854775807 < t.size + a0.size := by rw [ht, hw_strs]; simp only [List.length_cons, List.length_nil]; omega
  rw [← ht] at HN ⊢
  clear c1 ht
  go_enter Try.func71, Try.ntmps71
  go_wp2_with (go_at_call 83; (with_reducible refine (halyardref01_Num.calls 2 _ _ _ _ HN.out).mono ?_); rintro e w1 ⟨rfl, hb1⟩)
  go_ret2
  exact ⟨rfl, hb1⟩


end Go.Proofs.Ytdlpoemjgeehgaa.PG18
