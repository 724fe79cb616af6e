/- ipcpopt: a row of options copied. -/
import Derived.Test.YtemddnccomeibaaDoorHIpH
namespace Go.Proofs.YtemddnccomeibaaDoorHIp
open Go.RowKit Go.Proofs.YtemddnccomeibaaDoorW.PrintWords Go.Proofs.YtemddnccomeibaaDoorHW Go.Proofs.YtemddnccomeibaaDoorHG Go.Proofs.YtemddnccomeibaaDoor.PG10
set_option linter.unusedVariables false
set_option linter.unusedSimpArgs false
theorem cells_of_C {W : World} {ad : Addr} {l : List Op} (h : Kd.C k38 W (some ad) l.length l) (hl : l.length ≤ 100000) : ∀ (j : Nat) (y : Value), (l.flatMap cel)[j]? = some y → W.cell? (ad.add j) = some y := by
  intro j y hy
  have hlen := Go.Proofs.YtemddnccomeibaaDoorHS.flat_len cel 2 cel_len l
  have hj : j < l.length * 2 := by rw [← hlen]; exact (List.getElem?_eq_some_iff.1 hy).1
  have hq : j / 2 < l.length := by omega
  have z := Go.Proofs.YtemddnccomeibaaDoorHS.flat_get cel 2 cel_len (by decide) l j hj
  rw [hy] at z
  obtain ⟨p, hp⟩ : ∃ p, l[j / 2]? = some p := ⟨_, List.getElem?_eq_getElem hq⟩
  have d3 : l[j / 2]! = p := by rw [getElem!_pos l (j / 2) hq]; obtain ⟨_, e⟩ := List.getElem?_eq_some_iff.1 hp; exact e
  rw [d3] at z
  obtain ⟨ad', ha, q0, q1⟩ := at_T38 h ((j / 2 : Nat) : Int) (by omega) (by omega)
  obtain rfl := Option.some.inj ha
  rw [rd_of hp, Int.toNat_natCast] at q0 q1
  rcases Nat.mod_two_eq_zero_or_one j with m | m
  · rw [m] at z
    have z : y = .int .u8 p.f0 := by simpa [cel] using z
    rw [z, ← q0]
    congr 2
    omega
  · rw [m] at z
    have z : y = .string p.f1 := by simpa [cel] using z
    rw [z, ← q1, ← add_field _ _ 1 (by omega)]
    congr 2
    omega
section
variable {W : World} {ops : Array Oper} {o : Oper} {rest : List Oper} {a : Act} {Q : Exit → Act → World → Prop}
theorem ones_of : ∀ (l : List Op), ∀ u ∈ l.flatMap cel, u.oneCell' = true := by
  intro l u hu
  rw [List.mem_flatMap] at hu
  obtain ⟨p, _, hp⟩ := hu
  simp only [cel, List.mem_cons, List.not_mem_nil, or_false] at hp
  rcases hp with rfl | rfl <;> rfl
/-- append(nil, l...): a copy. -/
theorem wp_copy (hgd : o.guard = none) (s x : Operand) (ho : o.op = .call { callee := .builtin .append, args := #[s, x], argTypes := #[31, 31] })
    (A : Option Addr) (c : Nat) (l : List Op) (hs : a.eval s = .slice none 0 0) (hx : a.eval x = .slice A l.length c) (HC : Kd.C k38 W A l.length l) (hl : l.length ≤ 100000)
    (h : ∀ v1 w1, w1.ownsRow W.heap.size 38 2 v1 l.length (l.flatMap cel) → Below W.heap.size W w1 → wpList Tryd.prog ops Q rest (a.put o.dst v1) w1) : wpList Tryd.prog ops Q (o :: rest) a W := by
  have hrun : ∃ v1 w1, (Builtin.append_ #[31, 31] o.type #[.slice none 0 0, .slice A l.length c]).run Tryd.prog W = .ok v1 w1 ∧ w1.ownsRow W.heap.size 38 2 v1 l.length (l.flatMap cel) ∧ Below W.heap.size W w1 := by
    obtain ⟨i0, hi, hzz⟩ := Option.map_eq_some_iff.1 info38
    simp only [Prod.mk.injEq] at hzz
    obtain ⟨hz0, hz1, hz2⟩ := hzz
    rcases A with _ | ad
    · have h0 : l.length = 0 := by
        rcases Nat.eq_zero_or_pos l.length with h0 | h0
        · exact h0
        · obtain ⟨ad, h, _⟩ := at_T38 HC 0 (by omega) (by omega)
          cases h
      obtain rfl : l = [] := List.eq_nil_of_length_eq_zero h0
      refine ⟨.slice none 0 0, W, ?_, World.ownsRow_nil _ _ _ _, Below.refl _ _⟩
      simp [Builtin.append_, run_underlying Tryd.underlying31, sizeOf, typeInfo, hi, Builtin.lenOf, Builtin.firstCells]
    · obtain ⟨v', w', hr, q1, q2, _, _⟩ := run_append_own_at (P := Tryd.prog) W W.heap.size 31 o.type 38 i0 (.agg #[.int .u8 0, .string ⟨#[]⟩]) 2 24 Tryd.underlying31 hi hz0 hz1 hz2 rfl (by omega) (.slice none 0 0) 0 [] (World.ownsRow_nil _ _ _ _) ad l.length c (l.flatMap cel) (Go.Proofs.YtemddnccomeibaaDoorHS.flat_len cel 2 cel_len l) (cells_of_C HC hl) (ones_of l) (by unfold maxLen; omega) (by omega) (Nat.le_refl _)
      refine ⟨v', w', hr, by simpa using q1, ?_⟩
      exact (Below.refl _ W).grown q2 (Nat.le_refl _) (fun k h => by cases h)
  obtain ⟨v', w', hr, q1, q2⟩ := hrun
  refine wpList_plain hgd fun K' hK' => ?_
  unfold Oper.wp execOp
  simp only [ho, resolve, invoke, builtin, Sem.run_bind, Sem.run_pure, Result.andThen_ok, List.map_toArray, List.map_cons, List.map_nil, hs, hx, hr]
  exact hK' _ _ (h v' w' q1 q2)
end
end Go.Proofs.YtemddnccomeibaaDoorHIp
