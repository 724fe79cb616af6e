/- m1[k1], m2[k2] = v1, v2: an entry is sought, then stored: both together are the map's update. -/
import Derived.Test.YtmgpaccgjafjeaaHG
import Derived.WideKeyEntry
namespace Go.Proofs.YtmgpaccgjafjeaaHG
open Go Go.RowKit Go.Maps Go.ChangeMaps Go.MapKept
open Go.WideElems (findIdx_born findIdx_arr modify_last set_self)
set_option linter.unusedVariables false
/-- An entry is sought: what is stored there is the map's update. -/
def Pend (P : Program) (t k : TypeId) (zv : Value) (b : Nat) (M : Lit → Option Value) (c : Nat) (l : Lit) (st : Nat) (w1 : World) : Prop :=
  ∀ (w2 : World) (val : Value), w2.heap[b]? = w1.heap[b]? → ∃ w3, (Instr.entryStore t (.map (some b)) (goInt st) val).run P w2 = .ok () w3 ∧ MapIs P k zv w3 b (mput M l val) (if (M l).isSome = true then c else c + 1) ∧ KB b w2 w3 ∧ w3.heap.size = w2.heap.size
theorem Pend.heap {P : Program} {t k : TypeId} {zv : Value} {b c st : Nat} {M : Lit → Option Value} {l : Lit} {w w' : World} (h : Pend P t k zv b M c l st w) (hb : w'.heap[b]? = w.heap[b]?) : Pend P t k zv b M c l st w' := fun w2 val h2 => h w2 val (h2.trans hb)
theorem kb_block {b : Nat} {w : World} {es es' : Array MapEntry} {clock clock' : Nat} (hb : w.heap[b]? = some (.map es clock)) : KB b w (setBlock w b (.map es' clock')) := KB.turned ⟨es, clock, es', clock', hb, rfl⟩
theorem size_block {b : Nat} {w : World} {o : Obj} : (setBlock w b o).heap.size = w.heap.size := by simp [setBlock]
section
variable {P : Program} {w : World} {t k e : TypeId} {zv : Value} {b c : Nat} {M : Lit → Option Value}
theorem entry_run (h : MapIs P k zv w b M c) (K : Keyed P k) (ht : P.underlying t = some (.map k e)) (hz : ∀ u : World, (zeroValue e).run P u = .ok zv u) (hc : c < 1000000000) {key : Value} {l : Lit} (hkey : keyOf P k key = some l) (hl : WideAt.IsKeyLit l) :
    ∃ (v0 : Value) (st : Nat) (w1 : World), (Instr.mapEntry t (.map (some b)) key).run P w = .ok (.tuple #[v0, goInt st]) w1 ∧ Pend P t k zv b M c l st w1 ∧ KB b w w1 ∧ w1.heap.size = w.heap.size := by
  obtain ⟨D, ho, hsz, hM⟩ := h
  have ht' := ho.tidy K
  have upd : ∀ val : Value, ∃ w', (Instr.mapUpdate t (.map (some b)) key val).run P w = .ok () w' ∧ MapIs P k zv w' b (mput M l val) (if (M l).isSome = true then c else c + 1) := by
    intro val
    obtain ⟨w', hrun, r1, r2⟩ := ho.store K ht (show c < maxLen by unfold maxLen; omega) hkey (show RG val = some (.held val, []) from rfl)
    have hsz' : Maps.size (D.put l (.held val)) = if (M l).isSome = true then c else c + 1 := by
      rw [size_put (k := l) ht' (.held val), (hM l hl).1, hsz]
    refine ⟨w', hrun, D.put l (.held val), hsz' ▸ tight r1, hsz', fun y hy => ?_⟩
    unfold mput
    by_cases e : y = l
    · subst e
      rw [if_pos rfl]
      exact ⟨has_put_same ho.isMap hl _, atKey_put_same ho.isMap hl _ _⟩
    · rw [if_neg e, has_put_other e, atKey_put_other e]
      exact hM y hy
  obtain ⟨es, clock, hb, F, _, _⟩ := ho
  obtain ⟨s1, s2, _⟩ := F.stamped
  rcases K.find w hkey es.toList F.keys with ⟨h1, h2⟩ | ⟨j, e0, h1, h2, h3⟩
  · refine ⟨zv, clock, setBlock w b (.map (es.push ⟨key, zv, clock⟩) (clock + 1)), ?_, ?_, kb_block hb, size_block⟩
    · simp [Instr.mapEntry, run_underlying ht, MapKept.run_getObj_map hb, K.check w false hkey, h1, hz, MapKept.run_setObj_map _ hb, Result.andThen, setBlock]
    · intro w2 val hw
      obtain ⟨w', hrun, hm'⟩ := upd val
      have hw2 : w2.heap[b]? = some (.map (es.push ⟨key, zv, clock⟩) (clock + 1)) := by rw [hw]; exact heap_setBlock_same hb _
      have e1 : (Instr.mapUpdate t (.map (some b)) key val).run P w = .ok () (setBlock w b (.map (es.push ⟨key, val, clock⟩) (clock + 1))) := by
        simp [Instr.mapUpdate, run_underlying ht, MapKept.run_getObj_map hb, K.check w false hkey, h1, MapKept.run_setObj_map _ hb, Result.andThen, setBlock]
      rw [e1] at hrun
      have hw' : setBlock w b (.map (es.push ⟨key, val, clock⟩) (clock + 1)) = w' := by injection hrun
      have hidx : (es.push ⟨key, zv, clock⟩).findIdx? (fun e => ((e.born : Nat) : Int) == ((clock : Nat) : Int)) = some es.size := by
        rw [findIdx_arr]
        refine findIdx_born (l := (es.push ⟨key, zv, clock⟩).toList) (j := es.size) (e0 := ⟨key, zv, clock⟩) ?_ (by simp)
        simp only [Array.toList_push, List.map_append, List.map_cons, List.map_nil]
        refine List.nodup_append.2 ⟨s2, by simp, fun a ha c hc e1 => ?_⟩
        simp only [List.mem_singleton] at hc
        obtain ⟨x, hx, rfl⟩ := List.mem_map.1 ha
        have := s1 x hx
        omega
      have hmod : (es.push ⟨key, zv, clock⟩).modify es.size (fun e => { e with val := val }) = es.push ⟨key, val, clock⟩ := by
        apply Array.ext'
        rw [Array.toList_modify, Array.toList_push, Array.toList_push, ← Array.length_toList, modify_last]
      refine ⟨setBlock w2 b (.map (es.push ⟨key, val, clock⟩) (clock + 1)), ?_, hm'.heap ?_, kb_block hw2, size_block⟩
      · simp [Instr.entryStore, MapKept.run_getObj_map hw2, asInt, asIntOf, goInt, hidx, hmod, MapKept.run_setObj_map _ hw2, Result.andThen, setBlock]
      · rw [← hw', heap_setBlock_same hb, heap_setBlock_same hw2]
  · have hj : es[j]? = some e0 := by simpa using h2
    have hsame : es.modify j (fun e => { e with key := key }) = es := by
      apply Array.ext'
      rw [Array.toList_modify, modify_eq_set _ _ _ _ h2]
      have : ({ e0 with key := key } : MapEntry) = e0 := by rw [← h3]
      rw [this]
      exact set_self _ _ _ h2
    refine ⟨e0.val, e0.born, setBlock w b (.map es clock), ?_, ?_, kb_block hb, size_block⟩
    · simp [Instr.mapEntry, run_underlying ht, MapKept.run_getObj_map hb, K.check w false hkey, h1, hj, h3, K.stays w hkey, hsame, MapKept.run_setObj_map _ hb, Result.andThen, setBlock]
    · intro w2 val hw
      obtain ⟨w', hrun, hm'⟩ := upd val
      have hw2 : w2.heap[b]? = some (.map es clock) := by rw [hw]; exact heap_setBlock_same hb _
      have e1 : (Instr.mapUpdate t (.map (some b)) key val).run P w = .ok () (setBlock w b (.map (es.modify j (fun e' => { e' with key := key, val := val })) clock)) := by
        simp [Instr.mapUpdate, run_underlying ht, MapKept.run_getObj_map hb, K.check w false hkey, h1, hj, h3, K.stays w hkey, MapKept.run_setObj_map _ hb, Result.andThen, setBlock]
      rw [e1] at hrun
      have hw' : setBlock w b (.map (es.modify j (fun e' => { e' with key := key, val := val })) clock) = w' := by injection hrun
      have hidx : es.findIdx? (fun e => ((e.born : Nat) : Int) == ((e0.born : Nat) : Int)) = some j := by
        rw [findIdx_arr]
        exact findIdx_born s2 h2
      have hmod : es.modify j (fun e => { e with val := val }) = es.modify j (fun e' => { e' with key := key, val := val }) := by
        apply Array.ext'
        rw [Array.toList_modify, Array.toList_modify, modify_eq_set _ _ _ _ h2, modify_eq_set _ _ _ _ h2, ← h3]
      refine ⟨setBlock w2 b (.map (es.modify j (fun e' => { e' with key := key, val := val })) clock), ?_, hm'.heap ?_, kb_block hw2, size_block⟩
      · simp [Instr.entryStore, MapKept.run_getObj_map hw2, asInt, asIntOf, goInt, hidx, hmod, MapKept.run_setObj_map _ hw2, Result.andThen, setBlock]
      · rw [← hw', heap_setBlock_same hb, heap_setBlock_same hw2]
end
section
variable {P : Program} (w : World) {ops : Array Oper} {rest : List Oper} {o : Oper} {a : Act} {Q : Exit → Act → World → Prop}
theorem wp_mapEntry (hg : o.guard = none) (m x : Operand) (t : TypeId) (hop : o.op = Op.mapEntry t m x) (k e : TypeId) (K : Keyed P k) (ht : P.underlying t = some (.map k e)) (zv : Value) (hz : ∀ u : World, (zeroValue e).run P u = .ok zv u)
    (b c : Nat) (M : Lit → Option Value) (hm : a.eval m = .map (some b)) (hown : MapIs P k zv w b M c) (hc : c < 1000000000) (key : Value) (l : Lit) (hx : a.eval x = key) (hkey : keyOf P k key = some l) (hl : WideAt.IsKeyLit l)
    (hK : ∀ v0 (st : Nat) w', Pend P t k zv b M c l st w' → KB b w w' → w'.heap.size = w.heap.size → wpList P ops Q rest (a.put o.dst (.tuple #[v0, .int .i64 st])) w') : wpList P ops Q (o :: rest) a w := by
  refine wpList_plain hg fun K' hK' => ?_
  obtain ⟨v0, st, w1, hrun, h1, h2, h3⟩ := entry_run hown K ht hz hc hkey hl
  unfold Oper.wp
  simp [execOp, hop, hm, hx, hrun, Result.andThen]
  exact hK' _ _ (hK v0 st w1 h1 h2 h3)
theorem wp_entryStore (hg : o.guard = none) (m s x : Operand) (t : TypeId) (hop : o.op = Op.entryStore t m s x) (k : TypeId) (zv : Value) (b c : Nat) (M : Lit → Option Value) (l : Lit) (st : Nat) (hp : Pend P t k zv b M c l st w) (hm : a.eval m = .map (some b)) (hs : a.eval s = .int .i64 st) (val : Value) (hx : a.eval x = val)
    (hK : ∀ w', MapIs P k zv w' b (mput M l val) (if (M l).isSome = true then c else c + 1) → KB b w w' → w'.heap.size = w.heap.size → wpList P ops Q rest (a.put o.dst undef) w') : wpList P ops Q (o :: rest) a w := by
  refine wpList_plain hg fun K' hK' => ?_
  obtain ⟨w1, hrun, h1, h2, h3⟩ := hp w val rfl
  have hrun' : (Instr.entryStore t (.map (some b)) (.int .i64 st) val).run P w = .ok () w1 := hrun
  unfold Oper.wp
  simp [execOp, hop, hm, hs, hx, hrun', Result.andThen]
  exact hK' _ _ (hK w1 h1 h2 h3)
end
end Go.Proofs.YtmgpaccgjafjeaaHG
