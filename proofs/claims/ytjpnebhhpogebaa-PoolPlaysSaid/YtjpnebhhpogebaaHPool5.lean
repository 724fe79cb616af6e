import Derived.Test.YtjpnebhhpogebaaHPool4
import Derived.Maps.RangeWalk
import Derived.Maps.Ext
namespace Go.Proofs.YtjpnebhhpogebaaHPool
open Go.RowKit Go.Proofs.YtjpnebhhpogebaaW.PrintWords Go.Proofs.YtjpnebhhpogebaaHW Go.Proofs.YtjpnebhhpogebaaHG
set_option linter.unusedVariables false
set_option linter.unusedSimpArgs false
theorem has_nonkey {D : DataW Value} (h : Maps.Canon D) {l : Lit} (hl : ¬ WideAt.IsKeyLit l) : Maps.has D l = false := by
  obtain ⟨es, rfl, _, hk⟩ := h
  show es.any (fun p => p.1.sameKey l) = false
  rw [List.any_eq_false]
  intro p hp hs
  exact hl (WideAt.sameKey_eq hs ▸ hk p hp)
theorem atKey_has {D : DataW Value} {l : Lit} (z z' : DataW Value) (h : Maps.has D l = true) : D.atKey l z = D.atKey l z' := by
  cases D with
  | map es =>
    cases hf : es.find? (fun p => p.1.sameKey l) with
    | some p => simp only [DataW.atKey, hf]
    | none =>
      rw [List.find?_eq_none] at hf
      obtain ⟨p, hp, hs⟩ := List.any_eq_true.1 h
      exact absurd hs (hf p hp)
  | _ => unfold Maps.has at h; exact absurd h (by simp)
/-- What a map holds says how many entries it has. -/
theorem MapIs.count {P : Program} {k : TypeId} {zv : Value} {w w' : World} {b b' c c' : Nat} {M : Lit → Option Value} (K : Maps.Keyed P k) (h : MapIs P k zv w b M c) (h' : MapIs P k zv w' b' M c') : c = c' := by
  obtain ⟨D, o, s, hD⟩ := h
  obtain ⟨D', o', s', hD'⟩ := h'
  have e : D = D' := by
    refine Maps.ext (o.canon K) (o'.canon K) (fun l => ?_) (fun l z hl => ?_)
    · by_cases hk : WideAt.IsKeyLit l
      · rw [(hD l hk).1, (hD' l hk).1]
      · rw [has_nonkey (o.canon K) hk, has_nonkey (o'.canon K) hk]
    · by_cases hk : WideAt.IsKeyLit l
      · have hl' : Maps.has D' l = true := by rw [(hD' l hk).1, ← (hD l hk).1]; exact hl
        rw [atKey_has z (.held zv) hl, atKey_has z (.held zv) hl', (hD l hk).2, (hD' l hk).2]
      · rw [has_nonkey (o.canon K) hk] at hl; exact absurd hl (by simp)
  rw [← s, ← s', e]
end Go.Proofs.YtjpnebhhpogebaaHPool
