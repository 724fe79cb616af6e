-- WRITTEN by wip/tools/hprint.py: the kit's print.py run over this translation, with functions proved by hand laid in. Lean checks it.
import Derived.Test.YtdlpoemjgeehgaaPG11Tx0
import Derived.Test.YtdlpoemjgeehgaaPG11Tx5
import Derived.Test.YtdlpoemjgeehgaaPG11Tx6
namespace Go.Proofs.Ytdlpoemjgeehgaa.PG11T
open Go.RowKit Go.Proofs.YtdlpoemjgeehgaaW.PrintWords Go.Proofs.YtdlpoemjgeehgaaW.PrintLast Go.Proofs.YtdlpoemjgeehgaaW.PrintMore Go.Proofs.YtdlpoemjgeehgaaHW
attribute [local go_sem] max2_int min2_int max_two min_two max_three min_three max_four min_four   -- for this text's walks alone
set_option linter.unusedVariables false
set_option linter.unusedSimpArgs false

/-! ### reject_say: function 77 -/
set_option maxRecDepth 100000 in
set_option maxHeartbeats 1000000 in
theorem reject_say1.calls (g : Nat) (mru : Int) (s r : ByteArray) (e : Int) (w : World) (hg : w.heap[g]? = some (.cells #[.int .i64 mru] 3 (0, 0))) (h0 : 64 ≤ mru) (h1 : mru ≤ 65535) (hr : packet_Trim.f s (mn (mru - 4) 1496) = some (r, e)) :
    Calls Try.prog 96 #[.string s, .pointer (some ⟨g, 0, none⟩)] w fun e w' => e = .returned (.string r) ∧ Below w.heap.size w w' := by
  have hc := blk_cell hg 0
  simp only [List.getElem?_toArray, List.getElem?_cons_zero] at hc
  clear hg
  unfold mn at hr
  by_cases c : (1496 : Int) < mru - 4
  · rw [if_pos c] at hr
    have HT := Aside0.mk hr
    clear hr
    go_enter Try.func96, Try.ntmps96
    go_wp2_with (go_at_call 97; (with_reducible refine (packet_Trim.calls _ _ _ _ _ HT.out).mono ?_); rintro e w1 ⟨rfl, hb1⟩)
    go_ret
    exact ⟨rfl, hb1⟩
  · rw [if_neg c] at hr
    have HT := Aside0.mk hr
    clear hr
    go_enter Try.func96, Try.ntmps96
    go_wp2_with (go_at_call 97; (with_reducible refine (packet_Trim.calls _ _ _ _ _ HT.out).mono ?_); rintro e w1 ⟨rfl, hb1⟩)
    go_ret
    exact ⟨rfl, hb1⟩
def reject_say.f (a0 a1 a2 : Int) (l : List ByteArray) : Option (Int × Int × ByteArray × Int) :=
  if a2 < 64 ∨ a2 > 65535 then some (0, 0, ⟨#[]⟩, 2) else
  (strings_Join.f l ⟨#[]⟩).bind fun s => (packet_Trim.f s (mn (a2 - 4) 1496)).bind fun t => some (a0, a1, t.1, 0)
set_option maxRecDepth 100000 in
set_option maxHeartbeats 1000000 in
theorem reject_say.calls (a0 : Int) (a1 : Int) (a2 : Int) (A3 : Option Addr) (c3 : Nat) (l3 : List ByteArray) (r1 r2 : Int) (r3 : ByteArray) (r4 : Int) (w : World) (hr3 : Kd.C Kd.string w A3 l3.length l3) (hc3 : l3.length ≤ c3) (h : reject_say.f a0 a1 a2 l3 = some (r1, r2, r3, r4)) :
    Calls Try.prog 77 #[.int .u8 a0, .int .u8 a1, .int .i64 a2, .slice A3 l3.length c3] w fun e w' => e = .returned (.tuple #[.agg #[.int .u8 r1, .int .u8 r2, .string r3], .int .i64 r4]) ∧ Below w.heap.size w w' := by
  have huP := Try.underlying25
  have HB := Aside0.mk (Below.refl w.heap.size w)
  unfold reject_say.f at h
  by_cases c : a2 < 64 ∨ a2 > 65535
  · rw [if_pos c] at h
    simp only [Option.some.injEq, Prod.mk.injEq] at h
    obtain ⟨rfl, rfl, rfl, rfl⟩ := h
    by_cases c1 : a2 < 64
    · go_enter Try.func77, Try.ntmps77
      go_wp2_with fail
      exact bodyPost_ret (v := .tuple #[.agg #[.int .u8 0, .int .u8 0, .string (⟨#[]⟩ : ByteArray)], .int .i64 2]) (by simp [results, Try.results77, go_sem]) rfl ⟨rfl, by repeat (first | (with_reducible first | exact HB.out | apply below_alloc | apply pw_below_drewN | apply below_drew1 | refine Below.setCell ?_ (by simp) _))⟩
    · have c2 : a2 > 65535 := by omega
      go_enter Try.func77, Try.ntmps77
      go_wp2_with fail
      exact bodyPost_ret (v := .tuple #[.agg #[.int .u8 0, .int .u8 0, .string (⟨#[]⟩ : ByteArray)], .int .i64 2]) (by simp [results, Try.results77, go_sem]) rfl ⟨rfl, by repeat (first | (with_reducible first | exact HB.out | apply below_alloc | apply pw_below_drewN | apply below_drew1 | refine Below.setCell ?_ (by simp) _))⟩
  rw [if_neg c] at h
  have b0 : 64 ≤ a2 := by omega
  have b1 : a2 ≤ 65535 := by omega
  replace h := Option.bind_eq_some_iff.mp h
  obtain ⟨s, hs, h⟩ := h
  replace h := Option.bind_eq_some_iff.mp h
  obtain ⟨⟨t, e⟩, ht, h⟩ := h
  simp only [Option.some.injEq, Prod.mk.injEq] at h
  obtain ⟨rfl, rfl, rfl, rfl⟩ := h
  have HS := Aside0.mk hs
  have HT := Aside0.mk ht
  have HR := Aside0.mk hr3
  clear hs ht c hr3
  go_enter Try.func77, Try.ntmps77
  go_wp2_with (first | (go_at_call 94; go_must (refine (strings_Join.calls _ _ _ _ s _ (Kd.C_below HR.out (below_alloc (below_alloc (Below.refl _ w) _) _)) hc3 HS.out).mono ?_); rintro e w1 ⟨rfl, hb1⟩; have BM := Aside0.mk (hw_below (blk_alloc (blk_new w (.cells #[.int .i64 a2] 3)) _) hb1); have BP := Aside0.mk (show w1.heap[w.heap.size + 1]? = some (.cells #[.int .u8 0, .int .u8 0, .string (⟨#[]⟩ : ByteArray)] 25 (0, 0)) from hw_below (hw_at (w := w.alloc (.cells #[.int .i64 a2] 3)) (by simp) _) hb1); replace HB := Aside0.mk (below_step (by repeat (first | (with_reducible first | exact HB.out | apply below_alloc | apply pw_below_drewN | apply below_drew1 | apply below_drew) | (refine Below.setCell ?_ (by first | (simp; done) | (simp; omega)) _))) hb1); clear hb1) | (go_at_call 96; go_must (refine (reject_say1.calls w.heap.size a2 s t _ _ BM.out b0 b1 HT.out).mono ?_); rintro e w2 ⟨rfl, hb2⟩; replace BP := Aside0.mk (hw_below BP.out hb2); replace HB := Aside0.mk (below_step (by repeat (first | (with_reducible first | exact HB.out | apply below_alloc | apply pw_below_drewN | apply below_drew1 | apply below_drew) | (refine Below.setCell ?_ (by first | (simp; done) | (simp; omega)) _))) hb2); clear hb2; have k0 := blk_cell BP.out 0; have k1 := blk_cell BP.out 1; have k2 := blk_cell BP.out 2; have f0 := blk_frozen BP.out 0; have f1 := blk_frozen BP.out 1; have f2 := blk_frozen BP.out 2; have zp := blk_lt BP.out; (try simp only [List.getElem?_toArray, List.getElem?_cons_zero, List.getElem?_cons_succ] at k0 k1 k2)))
  exact bodyPost_ret (v := .tuple #[.agg #[.int .u8 a0, .int .u8 a1, .string t], .int .i64 0]) (by simp [results, Try.results77, go_sem, k0, k1, k2]) rfl ⟨rfl, by repeat (first | (with_reducible first | exact HB.out | apply below_alloc | apply pw_below_drewN | apply below_drew1 | apply below_drew) | (refine Below.setCell ?_ (by first | (simp; done) | (simp; omega)) _))⟩


end Go.Proofs.Ytdlpoemjgeehgaa.PG11T
