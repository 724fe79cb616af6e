-- WRITTEN by wip/tools/hprint.py: the kit's print.py run over this translation, with functions proved by hand laid in. Lean checks it.
import Derived.Test.YtdlpoemjgeehgaaPG18x0
import Derived.Test.YtdlpoemjgeehgaaPG18x2
namespace Go.Proofs.Ytdlpoemjgeehgaa.PG18
open Go.RowKit Go.Proofs.YtdlpoemjgeehgaaW.PrintWords Go.Proofs.YtdlpoemjgeehgaaW.PrintLast Go.Proofs.YtdlpoemjgeehgaaW.PrintMore Go.Proofs.YtdlpoemjgeehgaaHW
attribute [local go_sem] max2_int min2_int max_two min_two max_three min_three max_four min_four   -- for this text's walks alone
set_option linter.unusedVariables false
set_option linter.unusedSimpArgs false

/-! ### octet_Join8: function 81 -/
def octet_Join8.acc : ByteArray → List ByteArray → Option (ByteArray × Int)
  | a, [] => some (a, 0)
  | a, s :: r => (octet_Text8.f s).bind fun x => if x.2 = 0 then (if a.size + x.1.size ≤ 140737488355328 then octet_Join8.acc (a ++ x.1) r else none) else some (⟨#[]⟩, x.2)
def octet_Join8.f (l0 : List ByteArray) : Option (ByteArray × Int) := octet_Join8.acc ⟨#[]⟩ l0
set_option maxRecDepth 100000 in
set_option maxHeartbeats 1000000 in
theorem octet_Join8.calls (A0 : Option Addr) (c0 : Nat) (l0 : List ByteArray) (r1 : ByteArray) (r2 : Int) (w : World) (hr0 : Kd.C Kd.string w A0 l0.length l0) (hc0 : l0.length ≤ c0) (h : octet_Join8.f l0 = some (r1, r2)) :
    Calls Try.prog 81 #[.slice A0 l0.length c0] w fun e w' => e = .returned (.tuple #[.string r1, .int .i64 r2]) ∧ Below w.heap.size w w' := by
  have H := Aside0.mk (show octet_Join8.acc ⟨#[]⟩ (l0.drop 0) = some (r1, r2) from h)
  have huB := Try.underlying137
  have hmax : (l0.length : Int) ≤ 9223372036854775807 := by have := hr0.2.1; omega
  have HR := Aside0.mk hr0
  clear h hr0 hc0
  go_enter Try.func81, Try.ntmps81
  go_wp2_with fail
  go_loopg [11] (l0.length + 1) (fun kq v11 w' => ∃ (k : Nat) (a : ByteArray), v11 = .int .i64 (k : Int) ∧ Aside0 (kq + k = l0.length + 1) ∧ Aside0 (octet_Join8.acc a (l0.drop k) = some (r1, r2)) ∧ Aside0 (Lib.IsBuilder 137 5 w.heap.size w.heap.size (Lib.byteCells a.data.toList) w') ∧ Aside0 (Below w.heap.size w w'))
  case atStart =>
    refine ⟨0, ⟨#[]⟩, rfl, ⟨rfl⟩, H, ⟨.inl ⟨Nat.le_refl _, .slice none 0 0, blk_new w _, own_nil _ _ _ _, by simp [Value.ownBlock]⟩⟩, ⟨below_alloc (Below.refl _ _) _⟩⟩
  case round =>
    clear H
    obtain ⟨k, a, rfl, HK, HA, HI, HB⟩ := hrel
    by_cases hlt : k < l0.length
    · obtain ⟨s, hs⟩ : ∃ s, l0[k]? = some s := ⟨_, List.getElem?_eq_getElem hlt⟩
      obtain ⟨ad, hA, hcell⟩ := (Kd.C_below HR.out HB.out).2.2 (by omega)
      obtain ⟨c, hc1, hc2, hc3⟩ := hcell k s hs
      have hc4 := hc3 0 (.string s) (by rw [show c = [.string s] from hc2]; rfl)
      simp only [Kd.string, Kd.scalar, Nat.mul_one, Nat.add_zero] at hc4
      have hd : l0.drop k = s :: l0.drop (k + 1) := by
        rw [List.drop_eq_getElem_cons hlt]; congr 1; rw [List.getElem?_eq_getElem hlt] at hs; exact Option.some.inj hs
      have H := HA.out
      rw [hd] at H
      simp only [octet_Join8.acc] at H
      replace H := Option.bind_eq_some_iff.mp H
      obtain ⟨⟨t, e⟩, ht, H⟩ := H
      simp only at H
      have HT := Aside0.mk ht
      clear ht hc1 hc2 hc3 hcell hs hd HA
      subst hA
      by_cases he : e = 0
      · subst he
        rw [if_pos rfl] at H
        by_cases hz : a.size + t.size ≤ 140737488355328
        · rw [if_pos hz] at H
          replace H := Aside0.mk H
          go_wp2_with (first | (go_at_call 99; (with_reducible refine (octet_Text8.calls _ _ _ _ HT.out).mono ?_); rintro e w1 ⟨rfl, hb1⟩; have HI1 := Aside0.mk (Go.Proofs.YtdlpoemjgeehgaaHB.isb_below HI.out hb1); have HB1 := Aside0.mk (below_step HB.out hb1); clear hb1) | (go_at_call 100; go_must (refine (Go.Proofs.YtdlpoemjgeehgaaHB.WriteString _ _ _ t _ HI1.out (by rw [Lib.byteCells_length, ← Lib.size_eq]; omega) HB1.out.size).mono ?_); rintro e w2 ⟨rfl, hi2, hb2⟩; have HI2 := Aside0.mk hi2; have HB2 := Aside0.mk (HB1.out.trans hb2); clear hi2 hb2))
          go_roundg (l0.length - k)
          case measure => have := HK.out; omega
          case rel =>
            refine ⟨k + 1, a ++ t, by go_num, ⟨by have := HK.out; omega⟩, H, ⟨.inr ?_⟩, HB2⟩
            have e : Lib.byteCells (a ++ t).data.toList = Lib.byteCells a.data.toList ++ Lib.strCells t := by
              rw [ByteArray.data_append, Array.toList_append]; simp [Lib.byteCells, Lib.strCells]
            rw [e]
            exact HI2.out
        · rw [if_neg hz] at H
          exact absurd H (by simp)
      · rw [if_neg he] at H
        simp only [Option.some.injEq, Prod.mk.injEq] at H
        obtain ⟨rfl, rfl⟩ := H
        have heb : (e != 0) = true := by simpa using he
        go_wp2_with (go_at_call 99; (with_reducible refine (octet_Text8.calls _ _ _ _ HT.out).mono ?_); rintro e w1 ⟨rfl, hb1⟩; have HB1 := Aside0.mk (below_step HB.out hb1); clear hb1)
        go_ret2
        exact ⟨rfl, HB1.out⟩
    · have H := HA.out
      rw [List.drop_eq_nil_of_le (by omega)] at H
      simp only [octet_Join8.acc, Option.some.injEq, Prod.mk.injEq] at H
      obtain ⟨rfl, rfl⟩ := H
      go_wp2_with (go_at_call 101; go_must (refine (Go.Proofs.YtdlpoemjgeehgaaHB.String_ _ _ a.data.toList _ HI.out HB.out.size).mono ?_); rintro e w1 ⟨rfl, hb1⟩; have HB1 := Aside0.mk (HB.out.trans hb1); clear hb1)
      go_ret2
      exact ⟨by simp, HB1.out⟩


end Go.Proofs.Ytdlpoemjgeehgaa.PG18
