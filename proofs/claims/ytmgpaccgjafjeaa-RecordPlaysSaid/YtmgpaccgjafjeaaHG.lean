import Derived.Maps.OwnSet
import Derived.Maps.Views
import Derived.WalkKit
import Derived.Deep.QuietTactic
namespace Go.Proofs.YtmgpaccgjafjeaaHG
open Go Go.RowKit Go.Maps Go.ChangeMaps Go.MapKept
set_option linter.unusedVariables false
/-- An element, whatever it is, reads as itself. -/
def RG (v : Value) : Option (DataW Value × List MemPlace) := some (.held v, [])
/-- Block b is a map that holds M, of c entries; zv is the elements' zero. -/
def MapIs (P : Program) (k : TypeId) (zv : Value) (w : World) (b : Nat) (M : Lit → Option Value) (c : Nat) : Prop :=
  ∃ D : DataW Value, w.ownsMap P k RG b c D ∧ Maps.size D = c ∧ ∀ l : Lit, WideAt.IsKeyLit l → Maps.has D l = (M l).isSome ∧ D.atKey l (.held zv) = .held ((M l).getD zv)
theorem tight {P : Program} {k : TypeId} {w : World} {b n : Nat} {D : DataW Value} (h : w.ownsMap P k RG b n D) : w.ownsMap P k RG b (Maps.size D) D := by
  obtain ⟨es, clock, h1, h2, h3, rfl⟩ := h
  exact ⟨es, clock, h1, h2, by simp [Maps.size, length_sorted], rfl⟩
section
variable {P : Program} {k : TypeId} {zv : Value} {w w' : World} {b c : Nat} {M : Lit → Option Value}
theorem MapIs.kept {row : Option Nat} (h : MapIs P k zv w b M c) (hg : w.grownBy w' row) (hne : some b ≠ row) : MapIs P k zv w' b M c := by
  obtain ⟨D, h1, h2, h3⟩ := h
  exact ⟨D, h1.kept hg hne, h2, h3⟩
theorem MapIs.heap (h : MapIs P k zv w b M c) (hb : w'.heap[b]? = w.heap[b]?) : MapIs P k zv w' b M c := by
  obtain ⟨D, ⟨es, clock, h1, h2⟩, h3⟩ := h
  exact ⟨D, ⟨es, clock, hb.trans h1, h2⟩, h3⟩
theorem MapIs.lt (h : MapIs P k zv w b M c) : b < w.heap.size := by
  obtain ⟨D, h1, _⟩ := h
  exact h1.lt
theorem MapIs.alloc (h : MapIs P k zv w b M c) (o : Obj) : MapIs P k zv (w.alloc o) b M c := h.kept (World.grownBy_alloc w o none) (by simp)
theorem MapIs.drewN (h : MapIs P k zv w b M c) (n : Nat) : MapIs P k zv (w.drewN n) b M c := h.heap rfl
theorem MapIs.drew (h : MapIs P k zv w b M c) : MapIs P k zv w.drew b M c := h.heap rfl
theorem MapIs.len_run (h : MapIs P k zv w b M c) {t e : TypeId} (ht : P.underlying t = some (.map k e)) (ty : TypeId) : (Builtin.len_ #[t] ty #[.map (some b)]).run P w = .ok (.int .i64 c) w := by
  obtain ⟨D, h1, h2, _⟩ := h
  have := h1.len ht ty
  rw [h2] at this
  exact this
theorem MapIs.congr {M' : Lit → Option Value} (h : MapIs P k zv w b M c) (e : ∀ l, WideAt.IsKeyLit l → M l = M' l) : MapIs P k zv w b M' c := by
  obtain ⟨D, h1, h2, h3⟩ := h
  exact ⟨D, h1, h2, fun l hl => by rw [← e l hl]; exact h3 l hl⟩
end
theorem MapIs.made (P : Program) (k : TypeId) (zv : Value) (w : World) : MapIs P k zv (w.alloc (.map #[] 0)) w.heap.size (fun _ => none) 0 :=
  ⟨.map [], World.ownsMap_made w P k RG, rfl, fun a _ => ⟨rfl, rfl⟩⟩
theorem clear_empty {P : Program} {w : World} {t k e : TypeId} {b clk : Nat} (ht : P.underlying t = some (.map k e)) (hb : w.heap[b]? = some (.map #[] clk)) (ty : TypeId) : (Builtin.clear_ #[t] ty #[.map (some b)]).run P w = .ok (.tuple #[]) w := by
  have e1 : setBlock w b (.map #[] clk) = w := by
    unfold setBlock
    have hlt : b < w.heap.size := by
      rcases Nat.lt_or_ge b w.heap.size with h | h
      · exact h
      · rw [Array.getElem?_eq_none h] at hb; exact absurd hb (by simp)
    have : w.heap.setIfInBounds b (.map #[] clk) = w.heap := by
      apply Array.ext
      · simp
      · intro i h1 h2
        rw [Array.getElem_setIfInBounds]
        split
        · rename_i h; subst h
          rw [Array.getElem?_eq_getElem hlt] at hb
          exact (Option.some.inj hb).symm
        · rfl
    rw [this]
  have e2 := run_setObj_map (P := P) (.map #[] clk) hb
  simp only [setBlock] at e1
  rw [e1] at e2
  simp [Builtin.clear_, run_underlying ht, MapKept.run_getObj_map hb, e2, Result.andThen]
noncomputable def mput (M : Lit → Option Value) (a : Lit) (v : Value) : Lit → Option Value := open Classical in fun x => if x = a then some v else M x
noncomputable def mdel (M : Lit → Option Value) (a : Lit) : Lit → Option Value := open Classical in fun x => if x = a then none else M x
/-- Which block b alone may turn of what was there. -/
def KB (b : Nat) (w w' : World) : Prop := w'.os = w.os ∧ w'.tape = w.tape ∧ w'.output = w.output ∧ w.heap.size ≤ w'.heap.size ∧ ∀ j, j < w.heap.size → j ≠ b → w'.heap[j]? = w.heap[j]?
theorem KB.refl (b : Nat) (w : World) : KB b w w := ⟨rfl, rfl, rfl, Nat.le_refl _, fun _ _ _ => rfl⟩
theorem KB.trans {b : Nat} {w w1 w2 : World} (h : KB b w w1) (h' : KB b w1 w2) : KB b w w2 :=
  ⟨h'.1.trans h.1, h'.2.1.trans h.2.1, h'.2.2.1.trans h.2.2.1, Nat.le_trans h.2.2.2.1 h'.2.2.2.1, fun j hj hb => (h'.2.2.2.2 j (Nat.lt_of_lt_of_le hj h.2.2.2.1) hb).trans (h.2.2.2.2 j hj hb)⟩
theorem KB.below {b : Nat} {w w1 : World} (h : Below w.heap.size w w1) : KB b w w1 := ⟨h.os, h.tape, h.output, h.size, fun j hj _ => h.block j hj⟩
theorem KB.turned {b : Nat} {w w1 : World} (h : w.mapTurned w1 b) : KB b w w1 := by
  obtain ⟨es, clock, es', clock', hb, rfl⟩ := h
  refine ⟨rfl, rfl, rfl, by simp [setBlock], fun j hj hne => ?_⟩
  simp [setBlock, Ne.symm hne]
theorem KB.to_below {b B : Nat} {w0 w w1 : World} (h : Below B w0 w) (hk : KB b w w1) (hB : B ≤ b) (hs : B ≤ w.heap.size) : Below B w0 w1 :=
  ⟨hk.1.trans h.os, hk.2.1.trans h.tape, hk.2.2.1.trans h.output, Nat.le_trans h.size hk.2.2.2.1, fun j hj => (hk.2.2.2.2 j (by omega) (by omega)).trans (h.block j hj)⟩
theorem KB.block {b g : Nat} {w w1 : World} {o : Obj} (hk : KB b w w1) (h : w.heap[g]? = some o) (hne : g ≠ b) : w1.heap[g]? = some o := by
  rw [hk.2.2.2.2 g (by
    rcases Nat.lt_or_ge g w.heap.size with h' | h'
    · exact h'
    · rw [Array.getElem?_eq_none h'] at h; exact absurd h (by simp)) hne]
  exact h
section
variable {P : Program} (w : World) {ops : Array Oper} {rest : List Oper} {o : Oper} {a : Act} {Q : Exit → Act → World → Prop}
theorem key_of {k : TypeId} (K : Keyed P k) {key : Value} {l : Lit} (h : keyOf P k key = some l) (hl : WideAt.IsKeyLit l) : True := trivial
theorem wp_lookup2 (hg : o.guard = none) (m x : Operand) (t : TypeId) (hop : o.op = Op.lookup t m x true) (k e : TypeId) (K : Keyed P k) (ht : P.underlying t = some (.map k e)) (zv : Value) (hz : (zeroValue e).run P w = .ok zv w)
    (b c : Nat) (M : Lit → Option Value) (hm : a.eval m = .map (some b)) (hown : MapIs P k zv w b M c) (key : Value) (l : Lit) (hx : a.eval x = key) (hkey : keyOf P k key = some l) (hl : WideAt.IsKeyLit l)
    (hK : wpList P ops Q rest (a.put o.dst (.tuple #[(M l).getD zv, .bool (M l).isSome])) w) : wpList P ops Q (o :: rest) a w := by
  obtain ⟨D, ho, hs, hM⟩ := hown
  refine wpList_lookup_own_ok w hg m x t hop k e K ht RG hz (.held zv) [] rfl b c D hm ho _ l hx hkey ?_
  intro v ps hv
  obtain ⟨g1, g2⟩ := hM l hl
  unfold RG at hv
  rw [g2] at hv
  simp only [Option.some.injEq, Prod.mk.injEq, DataW.held.injEq] at hv
  rw [hv.1, g1]
  exact hK
theorem wp_lookup1 (hg : o.guard = none) (m x : Operand) (t : TypeId) (hop : o.op = Op.lookup t m x false) (k e : TypeId) (K : Keyed P k) (ht : P.underlying t = some (.map k e)) (zv : Value) (hz : (zeroValue e).run P w = .ok zv w)
    (b c : Nat) (M : Lit → Option Value) (hm : a.eval m = .map (some b)) (hown : MapIs P k zv w b M c) (key : Value) (l : Lit) (hx : a.eval x = key) (hkey : keyOf P k key = some l) (hl : WideAt.IsKeyLit l)
    (hK : wpList P ops Q rest (a.put o.dst ((M l).getD zv)) w) : wpList P ops Q (o :: rest) a w := by
  obtain ⟨D, ho, hs, hM⟩ := hown
  refine wpList_plain hg fun K' hK' => ?_
  obtain ⟨v, ps, hrun, hv⟩ := ho.lookup K ht hz (show RG zv = some (.held zv, []) from rfl) hkey
  unfold RG at hv
  rw [(hM l hl).2] at hv
  simp only [Option.some.injEq, Prod.mk.injEq, DataW.held.injEq] at hv
  unfold Oper.wp
  simp [execOp, hop, hm, hx, hrun, Result.andThen]
  rw [hv.1]
  exact hK' _ _ hK
theorem wp_delete (hg : o.guard = none) (m x : Operand) (t k : TypeId) (hop : o.op = Op.call { callee := Callee.builtin Builtin.delete, args := #[m, x], argTypes := #[t, k] }) (e : TypeId) (K : Keyed P k) (ht : P.underlying t = some (.map k e)) (zv : Value)
    (b c c' : Nat) (M : Lit → Option Value) (hm : a.eval m = .map (some b)) (hown : MapIs P k zv w b M c) (key : Value) (l : Lit) (hx : a.eval x = key) (hkey : keyOf P k key = some l) (hl : WideAt.IsKeyLit l) (hc : c' + (if (M l).isSome = true then 1 else 0) = c)
    (hK : ∀ w', MapIs P k zv w' b (mdel M l) c' → w.mapTurned w' b → wpList P ops Q rest (a.put o.dst (.tuple #[])) w') : wpList P ops Q (o :: rest) a w := by
  obtain ⟨D, ho, hs, hM⟩ := hown
  have ht' := ho.tidy K
  refine wpList_delete_own w hg m x t k hop e K ht RG b c D hm ho _ l hx hkey ?_
  intro w' h' hturn
  have hsz : Maps.size (D.del l) = c' := by
    have := size_del (k := l) ht'
    rw [(hM l hl).1] at this
    omega
  refine hK w' ⟨D.del l, hsz ▸ tight h', hsz, fun y hy => ?_⟩ hturn
  unfold mdel
  by_cases e : y = l
  · subst e
    rw [if_pos rfl]
    exact ⟨has_del_same, atKey_del_same _⟩
  · rw [if_neg e, has_del_other e, atKey_del_other e]
    exact hM y hy
theorem wp_update (hg : o.guard = none) (m x v : Operand) (t : TypeId) (hop : o.op = Op.mapUpdate t m x v) (k e : TypeId) (K : Keyed P k) (ht : P.underlying t = some (.map k e)) (zv : Value)
    (b c : Nat) (M : Lit → Option Value) (hm : a.eval m = .map (some b)) (hown : MapIs P k zv w b M c) (hc : c < 1000000000) (key : Value) (l : Lit) (hx : a.eval x = key) (hkey : keyOf P k key = some l) (hl : WideAt.IsKeyLit l) (val : Value) (hv : a.eval v = val)
    (hK : ∀ w', MapIs P k zv w' b (mput M l val) (if (M l).isSome = true then c else c + 1) → w.mapTurned w' b → wpList P ops Q rest (a.put o.dst undef) w') : wpList P ops Q (o :: rest) a w := by
  obtain ⟨D, ho, hsz, hM⟩ := hown
  have ht' := ho.tidy K
  refine wpList_mapUpdate_in w hg m x v t hop k e K ht RG b c D hm ho (by unfold maxLen; omega) _ _ l hx hv hkey _ [] (show RG val = some (.held val, []) from rfl) ?_
  intro w' h' hturn
  have hsz' : Maps.size (D.put l (.held val)) = if (M l).isSome = true then c else c + 1 := by
    rw [size_put (k := l) ht' (.held val), (hM l hl).1, hsz]
  refine hK w' ⟨_, hsz' ▸ tight h', hsz', fun y hy => ?_⟩ hturn
  unfold mput
  by_cases e : y = l
  · subst e
    rw [if_pos rfl]
    exact ⟨has_put_same ho.isMap hl _, atKey_put_same ho.isMap hl _ _⟩
  · rw [if_neg e, has_put_other e, atKey_put_other e]
    exact hM y hy
theorem wp_len (hg : o.guard = none) (m : Operand) (t : TypeId) (hop : o.op = Op.call { callee := Callee.builtin Builtin.len, args := #[m], argTypes := #[t] }) (k e : TypeId) (ht : P.underlying t = some (.map k e)) (zv : Value) (b c : Nat) (M : Lit → Option Value) (hm : a.eval m = .map (some b)) (hown : MapIs P k zv w b M c)
    (hK : wpList P ops Q rest (a.put o.dst (.int .i64 c)) w) : wpList P ops Q (o :: rest) a w := by
  obtain ⟨D, ho, hsz, hM⟩ := hown
  refine wpList_len_own w hg m t hop k e ht RG b c D hm ho ?_
  rw [hsz]; exact hK
theorem MapIs.look2_run {w : World} {k e : TypeId} {zv : Value} {b c : Nat} {M : Lit → Option Value} (h : MapIs P k zv w b M c) (K : Keyed P k) {t : TypeId} (ht : P.underlying t = some (.map k e)) (hz : (zeroValue e).run P w = .ok zv w) {key : Value} {l : Lit} (hkey : keyOf P k key = some l) (hl : WideAt.IsKeyLit l) :
    (Instr.lookup t (.map (some b)) key true).run P w = .ok (.tuple #[(M l).getD zv, .bool (M l).isSome]) w := by
  obtain ⟨D, ho, hs, hM⟩ := h
  obtain ⟨v, ps, hrun, hv⟩ := ho.look_ok K ht hz (show RG zv = some (.held zv, []) from rfl) hkey
  obtain ⟨g1, g2⟩ := hM l hl
  unfold RG at hv
  rw [g2] at hv
  simp only [Option.some.injEq, Prod.mk.injEq, DataW.held.injEq] at hv
  rw [hrun, hv.1, g1]
theorem MapIs.look1_run {w : World} {k e : TypeId} {zv : Value} {b c : Nat} {M : Lit → Option Value} (h : MapIs P k zv w b M c) (K : Keyed P k) {t : TypeId} (ht : P.underlying t = some (.map k e)) (hz : (zeroValue e).run P w = .ok zv w) {key : Value} {l : Lit} (hkey : keyOf P k key = some l) (hl : WideAt.IsKeyLit l) :
    (Instr.lookup t (.map (some b)) key false).run P w = .ok ((M l).getD zv) w := by
  obtain ⟨D, ho, hs, hM⟩ := h
  obtain ⟨v, ps, hrun, hv⟩ := ho.lookup K ht hz (show RG zv = some (.held zv, []) from rfl) hkey
  unfold RG at hv
  rw [(hM l hl).2] at hv
  simp only [Option.some.injEq, Prod.mk.injEq, DataW.held.injEq] at hv
  rw [hrun, hv.1]
/-- A lookup, as a step of a region that draws its order. -/
theorem step_lookup2 {K' : Act → World → Prop} {E : Prop} (hg : o.guard = none) (m x : Operand) (t : TypeId) (hop : o.op = Op.lookup t m x true) (k e : TypeId) (K : Keyed P k) (ht : P.underlying t = some (.map k e)) (zv : Value) (hz : (zeroValue e).run P w = .ok zv w)
    (b c : Nat) (M : Lit → Option Value) (hm : a.eval m = .map (some b)) (hown : MapIs P k zv w b M c) (key : Value) (l : Lit) (hx : a.eval x = key) (hkey : keyOf P k key = some l) (hl : WideAt.IsKeyLit l)
    (hK : K' (a.put o.dst (.tuple #[(M l).getD zv, .bool (M l).isSome])) w) : if Region.wanted o (yielded ops a.tmps) = true then Oper.wp P o a w K' Q else E := by
  have hw : Region.wanted o (yielded ops a.tmps) = true := by simp [Region.wanted, hg]
  rw [if_pos hw]
  have hr := hown.look2_run K ht hz hkey hl
  unfold Oper.wp
  simp [execOp, hop, hm, hx, hr, Result.andThen]
  exact hK
end
end Go.Proofs.YtmgpaccgjafjeaaHG
