/- ipcpopt: the document's Put and May, rows that are the same, rows that are long: plain. -/
import Derived.Test.YtemddnccomeibaaDoorHIpG
import Derived.Test.YtemddnccomeibaaDoorPG10x15
import Derived.Test.YtemddnccomeibaaDoorPG10m
namespace Go.Proofs.YtemddnccomeibaaDoorHIp
open Go.RowKit Go.Proofs.YtemddnccomeibaaDoorW.PrintWords Go.Proofs.YtemddnccomeibaaDoorHW Go.Proofs.YtemddnccomeibaaDoorHG Go.Proofs.YtemddnccomeibaaDoor.PG10
set_option linter.unusedVariables false
set_option linter.unusedSimpArgs false
theorem refPut (x : Ip) : halyardref10_Put.f 1 x.h0 x.a0 x.h1 x.a1 x.h2 x.a2 = some (putL x) := by
  obtain ⟨h0, a0, h1, a1, h2, a2⟩ := x
  have e : ∀ v, halyardref10_num.f v = some (putB v) := fun v => rfl
  cases h0 <;> cases h1 <;> cases h2 <;> simp [halyardref10_Put.f, halyardref10_Put.j0, e, putL]
theorem refMay (x : Ip) : halyardref10_May.f x.h0 x.a0 x.h1 x.a1 x.h2 x.a2 = some (decide (may x)) := by
  obtain ⟨h0, a0, h1, a1, h2, a2⟩ := x
  unfold halyardref10_May.f
  cases h0 <;> cases h1 <;> cases h2 <;> by_cases e0 : a0 = 0 <;> by_cases e1 : a1 = 0 <;> by_cases e2 : a2 = 0 <;> simp [may, e0, e1, e2]
theorem same_go (l : List Op) (hl : l.length ≤ 100000) : ∀ (n i : Nat), i + n = l.length → halyardref08_Same.l0 (n + 1) l l (i : Int) = some true
  | 0, i, h => by rw [halyardref08_Same.l0, if_neg (by omega)]
  | n + 1, i, h => by
    have hlt : i < l.length := by omega
    rw [halyardref08_Same.l0, if_pos (by omega), if_pos (by omega), if_pos (by omega), if_neg (by simp), w64 i (by omega)]
    exact same_go l hl n (i + 1) (by omega)
theorem same_all (l : List Op) (hl : l.length ≤ 100000) : halyardref08_Same.f (l.length + 1) l l = some true := by
  unfold halyardref08_Same.f
  rw [if_pos rfl]
  exact same_go l hl l.length 0 (by omega)
theorem long_go (l : List Op) : ∀ (n i : Nat) (s : Int), i + n = 80 → ∃ b, halyardlaw08_Long.l0 (n + 1) l s (i : Int) = some b ∧ (b = false → l.length ≤ 70)
  | 0, i, s, h => by
    rw [halyardlaw08_Long.l0]
    by_cases c : (i : Int) < (l.length : Int)
    · rw [if_pos c, if_neg (by omega)]
      by_cases d : (l.length : Int) > 70
      · rw [if_pos d]; exact ⟨true, rfl, fun h => by cases h⟩
      · rw [if_neg d]; exact ⟨_, rfl, fun _ => by omega⟩
    · rw [if_neg c]
      by_cases d : (l.length : Int) > 70
      · rw [if_pos d]; exact ⟨true, rfl, fun h => by cases h⟩
      · rw [if_neg d]; exact ⟨_, rfl, fun _ => by omega⟩
  | n + 1, i, s, h => by
    rw [halyardlaw08_Long.l0]
    by_cases c : (i : Int) < (l.length : Int)
    · rw [if_pos c, if_pos (by omega), if_pos (by omega), w64 i (by omega)]
      exact long_go l n (i + 1) _ (by omega)
    · rw [if_neg c]
      by_cases d : (l.length : Int) > 70
      · rw [if_pos d]; exact ⟨true, rfl, fun h => by cases h⟩
      · rw [if_neg d]; exact ⟨_, rfl, fun _ => by omega⟩
theorem long_of (l : List Op) : ∃ b, halyardlaw08_Long.f 81 l = some b ∧ (b = false → l.length ≤ 70) := long_go l 80 0 0 (by omega)
theorem odd_of : ∀ (l : List Op) (x : Ip) (odd : List Op), (getF x odd l).2.1.length ≤ odd.length + l.length
  | [], x, odd => by simp [getF]
  | o :: r, x, odd => by
    rw [getF]
    split
    · split
      · simp
      · have := odd_of r (setI x o.f0 (value4 o.f1)) odd
        simp only [List.length_cons]; omega
    · have := odd_of r x (odd ++ [o])
      simp only [List.length_append, List.length_cons, List.length_nil] at this ⊢; omega
end Go.Proofs.YtemddnccomeibaaDoorHIp
