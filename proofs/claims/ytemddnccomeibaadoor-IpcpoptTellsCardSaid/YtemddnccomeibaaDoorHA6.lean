/- A struct of six one-cell fields, by value: opened. -/
import Derived.Lib.SmallJoins
namespace Go.Proofs.YtemddnccomeibaaDoorHA6
open Go Go.Joins Go.ChangeShapes Go.WideShapes Go.RowKit Go.Deep
set_option linter.unusedVariables false
theorem six {α : Type} {l : List α} (h : l.length = 6) : ∃ a b c d e f, l = [a, b, c, d, e, f] := by
  rcases l with _ | ⟨a, _ | ⟨b, _ | ⟨c, _ | ⟨d, _ | ⟨e, _ | ⟨f, _ | ⟨g, tl⟩⟩⟩⟩⟩⟩⟩
  all_goals first | exact ⟨_, _, _, _, _, _, rfl⟩ | (simp at h)
theorem open_agg6 {H : Type} {enc : TypeId × Value → H} {P : Program} {w : World} {base : Nat} {spare : Nat → Bool} {held : Bool} {r : Reach} {b0 : Nat} {t : TypeId} {f0 f1 f2 f3 f4 f5 : Field} {v : Value} {d : DataW H} {p : List MemPlace}
    (hs : P.underlying t = some (.struct #[f0, f1, f2, f3, f4, f5])) (hone : oneCellFields P #[f0, f1, f2, f3, f4, f5] = true) (hC : P.cellsOf t = 6) (hv : Value.okWide P w r b0 t v) (h : DataW.Trod enc P w base spare held t v d p) :
    ∃ (v0 v1 v2 v3 v4 v5 : Value) (y0 y1 y2 y3 y4 y5 : DataW H × List MemPlace) (n : Nat), v = .agg #[v0, v1, v2, v3, v4, v5] ∧ d = .agg [y0.1, y1.1, y2.1, y3.1, y4.1, y5.1] ∧ p = y0.2 ++ (y1.2 ++ (y2.2 ++ (y3.2 ++ (y4.2 ++ y5.2)))) ∧
      DataW.trod enc P w base spare held n f0.type [v0] = some y0 ∧ DataW.trod enc P w base spare held n f1.type [v1] = some y1 ∧ DataW.trod enc P w base spare held n f2.type [v2] = some y2 ∧ DataW.trod enc P w base spare held n f3.type [v3] = some y3 ∧ DataW.trod enc P w base spare held n f4.type [v4] = some y4 ∧ DataW.trod enc P w base spare held n f5.type [v5] = some y5 := by
  obtain ⟨cells, rfl, hsize⟩ := okWide_struct hs hv
  obtain ⟨l⟩ := cells
  obtain ⟨a0, a1, a2, a3, a4, a5, rfl⟩ := six (l := l) (hsize.trans hC)
  obtain ⟨fuel, run⟩ := h
  obtain ⟨ys, n, _, hx, _, hys, part⟩ := DataW.trod_struct hs run
  obtain ⟨y0, y1, y2, y3, y4, y5, rfl⟩ := six (l := ys) hys
  have one : ∀ (j : Nat) (f : Field), (#[f0, f1, f2, f3, f4, f5] : Array Field)[j]? = some f → _ := fun j f hj => hone_of hone j f hj
  obtain ⟨b0', k0⟩ := one 0 f0 rfl
  obtain ⟨b1', k1⟩ := one 1 f1 rfl
  obtain ⟨b2', k2⟩ := one 2 f2 rfl
  obtain ⟨b3', k3⟩ := one 3 f3 rfl
  obtain ⟨b4', k4⟩ := one 4 f4 rfl
  obtain ⟨b5', k5⟩ := one 5 f5 rfl
  have q0 := part 0 f0 rfl
  have q1 := part 1 f1 rfl
  have q2 := part 2 f2 rfl
  have q3 := part 3 f3 rfl
  have q4 := part 4 f4 rfl
  have q5 := part 5 f5 rfl
  simp only [Value.cells, b0', k0] at q0
  simp only [Value.cells, b1', k1] at q1
  simp only [Value.cells, b2', k2] at q2
  simp only [Value.cells, b3', k3] at q3
  simp only [Value.cells, b4', k4] at q4
  simp only [Value.cells, b5', k5] at q5
  rw [Prod.mk.injEq] at hx
  refine ⟨a0, a1, a2, a3, a4, a5, y0, y1, y2, y3, y4, y5, n, rfl, ?_, ?_, ?_, ?_, ?_, ?_, ?_, ?_⟩
  · simpa using hx.1
  · simpa using hx.2
  · simpa using q0
  · simpa using q1
  · simpa using q2
  · simpa using q3
  · simpa using q4
  · simpa using q5
end Go.Proofs.YtemddnccomeibaaDoorHA6
