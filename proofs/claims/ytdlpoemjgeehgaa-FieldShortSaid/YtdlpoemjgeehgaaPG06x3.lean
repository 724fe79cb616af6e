-- WRITTEN by wip/tools/hprint.py: the kit's print.py run over this translation, with functions proved by hand laid in. Lean checks it.
import Derived.Test.YtdlpoemjgeehgaaPG06x0
namespace Go.Proofs.Ytdlpoemjgeehgaa.PG06
open Go.RowKit Go.Proofs.YtdlpoemjgeehgaaW.PrintWords Go.Proofs.YtdlpoemjgeehgaaW.PrintLast Go.Proofs.YtdlpoemjgeehgaaW.PrintMore Go.Proofs.YtdlpoemjgeehgaaHW
attribute [local go_sem] max2_int min2_int max_two min_two max_three min_three max_four min_four   -- for this text's walks alone
set_option linter.unusedVariables false
set_option linter.unusedSimpArgs false

/-! ### strings_Join: function 94 -/
def strings_Join.f (l0 : List ByteArray) (a1 : ByteArray) : Option ByteArray :=
  match l0 with
  | [x, y, z] => if a1.size = 0 ∧ x.size ≤ 1000000000000 ∧ y.size ≤ 1000000000000 ∧ z.size ≤ 1000000000000 then some (x ++ y ++ z) else none
  | _ => none
theorem strings_Join.ws (B b : Nat) (a s r : ByteArray) (w : World) (hr : r = a ++ s) (h : Lib.IsBuilder 137 5 B b (Lib.byteCells a.data.toList) w) (hlen : a.size + s.size ≤ 140737488355328) (hBw : B ≤ w.heap.size) :
    Calls Try.prog 100 #[.pointer (some ⟨b, 0, none⟩), .string s] w fun e w' => e = .returned (.tuple #[.int .i64 s.size, .nilIface]) ∧ (Lib.IsBuilder 137 5 B b (Lib.byteCells r.data.toList) w' ∧ Below B w w') := by
  subst hr
  refine (Go.Proofs.YtdlpoemjgeehgaaHB.WriteString B b _ s w h (by rw [Lib.byteCells_length, ← Lib.size_eq]; omega) hBw).mono ?_
  rintro e w2 ⟨rfl, hi2, hb2⟩
  have e : Lib.byteCells (a ++ s).data.toList = Lib.byteCells a.data.toList ++ Lib.strCells s := by
    rw [ByteArray.data_append, Array.toList_append]; simp [Lib.byteCells, Lib.strCells]
  rw [e]
  exact ⟨rfl, .inr hi2, hb2⟩
set_option maxRecDepth 100000 in
set_option maxHeartbeats 8000000 in
theorem strings_Join.calls (A0 : Option Addr) (c0 : Nat) (l0 : List ByteArray) (a1 : ByteArray) (r : ByteArray) (w : World) (hr0 : Kd.C Kd.string w A0 l0.length l0) (hc0 : l0.length ≤ c0) (h : strings_Join.f l0 a1 = some r) :
    Calls Try.prog 94 #[.slice A0 l0.length c0, .string a1] w fun e w' => e = .returned (.string r) ∧ Below w.heap.size w w' := by
  obtain ⟨x, y, z, rfl, rfl, hx, hy, hz, rfl⟩ : ∃ x y z, l0 = [x, y, z] ∧ a1 = ⟨#[]⟩ ∧ x.size ≤ 1000000000000 ∧ y.size ≤ 1000000000000 ∧ z.size ≤ 1000000000000 ∧ r = x ++ y ++ z := by
    unfold strings_Join.f at h
    split at h
    · split at h
      · rename_i x y z hh
        have hh_ : a1 = ⟨#[]⟩ := ByteArray.ext (Array.eq_empty_of_size_eq_zero hh.1)
        simp only [Option.some.injEq] at h
        exact ⟨x, y, z, rfl, hh_, hh.2.1, hh.2.2.1, hh.2.2.2, h.symm⟩
      · exact absurd h (by simp)
    · exact absurd h (by simp)
  clear h
  obtain ⟨ad, rfl, hcell⟩ := hr0.2.2 (by simp)
  have HR := Aside0.mk hr0
  have hw1 : wrap64 ((x.size : Int) + (y.size : Int)) = (x.size : Int) + (y.size : Int) := by unfold wrap64; omega
  obtain ⟨n, hn⟩ : ∃ n : Nat, n = x.size + y.size + z.size := ⟨_, rfl⟩
  have hw2 : wrap64 ((x.size : Int) + (y.size : Int) + (z.size : Int)) = (n : Int) := by unfold wrap64; omega
  have cell : ∀ w1 : World, Kd.C Kd.string w1 (some ad) 3 [x, y, z] → w1.cell? ad = some (.string x) ∧ w1.cell? ⟨ad.block, ad.off + 1, none⟩ = some (.string y) ∧ w1.cell? ⟨ad.block, ad.off + 2, none⟩ = some (.string z) := by
    intro w1 hh
    obtain ⟨ad', e, hh⟩ := hh.2.2 (by simp)
    obtain rfl : ad = ad' := by simpa using e
    have g : ∀ j s, [x, y, z][j]? = some s → w1.cell? (ad.add j) = some (.string s) := by
      intro j s hs
      obtain ⟨c, hc1, hc2, hc3⟩ := hh j s hs
      have hc4 := hc3 0 (.string s) (by rw [show c = [.string s] from hc2]; rfl)
      simpa only [Kd.string, Kd.scalar, Nat.mul_one, Nat.add_zero] using hc4
    exact ⟨g 0 x rfl, g 1 y rfl, g 2 z rfl⟩
  obtain ⟨B1, eB1⟩ : ∃ b, b = (⟨#[]⟩ : ByteArray) ++ x := ⟨_, rfl⟩
  have lB1 : B1.size = (⟨#[]⟩ : ByteArray).size + x.size := by rw [eB1, ByteArray.size_append]
  have LEB1 := Aside0.mk (show (⟨#[]⟩ : ByteArray).size + x.size ≤ 140737488355328 by have z0 : (⟨#[]⟩ : ByteArray).size = 0 := rfl; omega)
  have EQB1 := Aside0.mk eB1
  obtain ⟨B2, eB2⟩ : ∃ b, b = B1 ++ (⟨#[]⟩ : ByteArray) := ⟨_, rfl⟩
  have lB2 : B2.size = B1.size + (⟨#[]⟩ : ByteArray).size := by rw [eB2, ByteArray.size_append]
  have LEB2 := Aside0.mk (show B1.size + (⟨#[]⟩ : ByteArray).size ≤ 140737488355328 by have z0 : (⟨#[]⟩ : ByteArray).size = 0 := rfl; omega)
  have EQB2 := Aside0.mk eB2
  obtain ⟨B3, eB3⟩ : ∃ b, b = B2 ++ y := ⟨_, rfl⟩
  have lB3 : B3.size = B2.size + y.size := by rw [eB3, ByteArray.size_append]
  have LEB3 := Aside0.mk (show B2.size + y.size ≤ 140737488355328 by have z0 : (⟨#[]⟩ : ByteArray).size = 0 := rfl; omega)
  have EQB3 := Aside0.mk eB3
  obtain ⟨B4, eB4⟩ : ∃ b, b = B3 ++ (⟨#[]⟩ : ByteArray) := ⟨_, rfl⟩
  have lB4 : B4.size = B3.size + (⟨#[]⟩ : ByteArray).size := by rw [eB4, ByteArray.size_append]
  have LEB4 := Aside0.mk (show B3.size + (⟨#[]⟩ : ByteArray).size ≤ 140737488355328 by have z0 : (⟨#[]⟩ : ByteArray).size = 0 := rfl; omega)
  have EQB4 := Aside0.mk eB4
  obtain ⟨B5, eB5⟩ : ∃ b, b = B4 ++ z := ⟨_, rfl⟩
  have lB5 : B5.size = B4.size + z.size := by rw [eB5, ByteArray.size_append]
  have LEB5 := Aside0.mk (show B4.size + z.size ≤ 140737488355328 by have z0 : (⟨#[]⟩ : ByteArray).size = 0 := rfl; omega)
  have EQB5 := Aside0.mk eB5
  have hfin : B5 = x ++ y ++ z := by
    have en : ∀ a : ByteArray, a ++ (⟨#[]⟩ : ByteArray) = a := fun a => ByteArray.append_empty
    have e0 : ∀ a : ByteArray, (⟨#[]⟩ : ByteArray) ++ a = a := fun a => ByteArray.empty_append
    rw [eB5, eB4, eB3, eB2, eB1, en, en, e0]
  clear eB1 eB2 eB3 eB4 eB5 lB1 lB2 lB3 lB4 lB5
  have HF := Aside0.mk hfin
  clear hfin
  have CELL := Aside0.mk cell
  obtain ⟨k0, k1, k2⟩ := cell w hr0
  have hc3 : 3 ≤ c0 := hc0
  have hc1 : ¬ c0 = 1 := by omega
  have hc2 : ¬ (c0 : Int) = 1 := by omega
  clear cell hr0 hc0 hcell
  go_enter Try.func94, Try.ntmps94
  go_wp2_with fail
  refine wp_loop_rounds 4 ?_
  rw [rounds_succ]
  go_wp2_with fail
  rw [rounds_succ]
  go_wp2_with fail
  rw [rounds_succ]
  go_wp2_with fail
  have tok1 : True := trivial
  have tok2 : True := trivial
  have tok3 : True := trivial
  have tok4 : True := trivial
  have tok5 : True := trivial
  have tok6 : True := trivial
  have q1 : True := trivial
  have q2 : True := trivial
  rw [rounds_succ]
  go_wp2_with (first | (go_at_call 107; go_must (rw [show (x.size : Int) + (y.size : Int) + (z.size : Int) = (n : Int) from by omega]); go_must (refine (Go.Proofs.Try.Builder_Grow_fresh w.heap.size w.heap.size n _ (Nat.le_refl _) (blk_new w _) (Nat.le_of_lt (blk_lt (blk_new w _))) (by omega)).mono ?_); go_must (rintro e w1 ⟨rfl, hi, hb⟩; have HI1 := Aside0.mk (show Lib.IsBuilder 137 5 w.heap.size w.heap.size (Lib.byteCells (⟨#[]⟩ : ByteArray).data.toList) w1 from .inr hi); have HB1 := Aside0.mk ((below_alloc (Below.refl _ _) _).trans hb); clear hi hb tok1; have CC := CELL.out w1 (Kd.C_below HR.out HB1.out); have q0 := CC.1; clear CC)) | (go_at_call 100; have t_ := tok2; clear t_; go_must (refine (strings_Join.ws _ _ (⟨#[]⟩ : ByteArray) x B1 _ EQB1.out HI1.out LEB1.out HB1.out.size).mono ?_); go_must (rintro e w2 ⟨rfl, hi, hb⟩; have HI2 := Aside0.mk hi; have HB2 := Aside0.mk (HB1.out.trans hb); clear hi hb tok2; have CC := CELL.out w2 (Kd.C_below HR.out HB2.out); clear q1 q2; have q1 := CC.2.1; have q2 := CC.2.2; clear CC)))
  clear q0
  refine wp_loop_rounds 3 ?_
  rw [rounds_succ]
  go_wp2_with (first | (go_at_call 100; have t_ := tok3; clear t_; go_must (refine (strings_Join.ws _ _ B1 (⟨#[]⟩ : ByteArray) B2 _ EQB2.out HI2.out LEB2.out HB2.out.size).mono ?_); go_must (rintro e w3 ⟨rfl, hi, hb⟩; have HI3 := Aside0.mk hi; have HB3 := Aside0.mk (HB2.out.trans hb); clear hi hb tok3; have CC := CELL.out w3 (Kd.C_below HR.out HB3.out); clear q1 q2; have q1 := CC.2.1; have q2 := CC.2.2; clear CC)) | (go_at_call 100; have t_ := tok4; clear t_; go_must (refine (strings_Join.ws _ _ B2 y B3 _ EQB3.out HI3.out LEB3.out HB3.out.size).mono ?_); go_must (rintro e w4 ⟨rfl, hi, hb⟩; have HI4 := Aside0.mk hi; have HB4 := Aside0.mk (HB3.out.trans hb); clear hi hb tok4; have CC := CELL.out w4 (Kd.C_below HR.out HB4.out); clear q1 q2; have q1 := CC.2.1; have q2 := CC.2.2; clear CC)))
  rw [rounds_succ]
  go_wp2_with (first | (go_at_call 100; have t_ := tok5; clear t_; go_must (refine (strings_Join.ws _ _ B3 (⟨#[]⟩ : ByteArray) B4 _ EQB4.out HI4.out LEB4.out HB4.out.size).mono ?_); go_must (rintro e w5 ⟨rfl, hi, hb⟩; have HI5 := Aside0.mk hi; have HB5 := Aside0.mk (HB4.out.trans hb); clear hi hb tok5; have CC := CELL.out w5 (Kd.C_below HR.out HB5.out); clear q1 q2; have q1 := CC.2.1; have q2 := CC.2.2; clear CC)) | (go_at_call 100; have t_ := tok6; clear t_; go_must (refine (strings_Join.ws _ _ B4 z B5 _ EQB5.out HI5.out LEB5.out HB5.out.size).mono ?_); go_must (rintro e w6 ⟨rfl, hi, hb⟩; have HI6 := Aside0.mk hi; have HB6 := Aside0.mk (HB5.out.trans hb); clear hi hb tok6; have CC := CELL.out w6 (Kd.C_below HR.out HB6.out); clear q1 q2; have q1 := CC.2.1; have q2 := CC.2.2; clear CC)))
  rw [rounds_succ]
  go_wp2_with (go_at_call 101; go_must (refine (Go.Proofs.YtdlpoemjgeehgaaHB.String_ _ _ B5.data.toList _ HI6.out HB6.out.size).mono ?_); rintro e w7 ⟨rfl, hb7⟩; have HB7 := Aside0.mk (HB6.out.trans hb7); clear hb7)
  go_ret
  exact ⟨by rw [← HF.out]; rfl, HB7.out⟩


end Go.Proofs.Ytdlpoemjgeehgaa.PG06
