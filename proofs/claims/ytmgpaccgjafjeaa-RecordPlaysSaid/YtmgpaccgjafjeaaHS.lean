/- A row of elements of several cells, sorted by the library (slices.SortFunc): it owns the sorted row. -/
import Derived.Shelf.SlSortCmp.NoneTotal
import Derived.Sort.OwnSorted
namespace Go.Proofs.YtmgpaccgjafjeaaHS
open Go.RowKit Go.Sort Go.Shelf
set_option linter.unusedVariables false
set_option linter.unusedSimpArgs false
section
variable {α : Type} (enc : α → List Value) (k : Nat) (hk : ∀ x, (enc x).length = k) (k0 : 0 < k)
include hk
theorem flat_len (l : List α) : (l.flatMap enc).length = l.length * k := by
  induction l with
  | nil => simp
  | cons a l ih => rw [List.flatMap_cons, List.length_append, hk, ih, List.length_cons, Nat.succ_mul]; omega
include k0
variable [Inhabited α]
theorem flat_get : ∀ (l : List α) (t : Nat), t < l.length * k → (l.flatMap enc)[t]? = (enc (l[t / k]!))[t % k]?
  | [], t, h => by simp at h
  | a :: l, t, h => by
    rw [List.flatMap_cons]
    by_cases ht : t < k
    · rw [List.getElem?_append_left (by rw [hk]; exact ht), Nat.div_eq_of_lt ht, Nat.mod_eq_of_lt ht]; rfl
    · have e : t = (t - k) + k := by omega
      rw [List.getElem?_append_right (by rw [hk]; omega), hk, flat_get l (t - k) (by rw [List.length_cons, Nat.succ_mul] at h; omega)]
      conv => rhs; rw [e, Nat.add_div_right _ k0, Nat.add_mod_right]
      rfl
theorem flatK_list (d : Array α) : (flatK enc k d).toList = d.toList.flatMap enc := by
  apply List.ext_getElem?
  intro t
  by_cases h : t < d.size * k
  · rw [flat_get enc k hk k0 _ t (by simpa using h), Array.getElem?_toList]
    have h1 : (flatK enc k d)[t]! = (enc d[t / k]!)[t % k]! := get_flatK enc k d t h
    have h2 : t < (flatK enc k d).size := by rw [size_flatK]; exact h
    rw [Array.getElem?_eq_getElem h2, ← getElem!_pos _ t h2, h1]
    have h3 : t % k < (enc d[t / k]!).length := by rw [hk]; exact Nat.mod_lt _ k0
    have h4 : d.toList[t / k]! = d[t / k]! := by
      have hd : t / k < d.size := Nat.div_lt_of_lt_mul (by rw [Nat.mul_comm]; exact h)
      rw [getElem!_pos d.toList (t / k) (by simpa using hd), getElem!_pos d (t / k) hd]; simp
    rw [h4, getElem!_pos (enc d[t / k]!) (t % k) h3, List.getElem?_eq_getElem h3]
  · rw [Array.getElem?_toList, Array.getElem?_eq_none (by rw [size_flatK]; omega), List.getElem?_eq_none (by rw [flat_len enc k hk]; simp; omega)]
theorem holdsK_of_block {w : World} {g : Nat} {cur : Array Value} {e : TypeId} {xs : List α} (hb : w.heap[g]? = some (.cells cur e (0, 0))) (ht : cur.toList.take (xs.length * k) = xs.flatMap enc) : HoldsK enc k w g 0 xs.toArray := by
  unfold HoldsK
  intro j hj
  rw [size_flatK] at hj
  have hj' : j < xs.length * k := by simpa using hj
  refine ⟨?_, by simp [World.frozen?, hb]⟩
  have h1 : (cur.toList.take (xs.length * k))[j]? = (flatK enc k xs.toArray).toList[j]? := by rw [ht, flatK_list enc k hk k0]
  rw [List.getElem?_take_of_lt hj'] at h1
  simp only [World.cell?, hb, Nat.zero_add]
  simp only [Option.isSome_none, Bool.false_eq_true, if_false]
  rw [← Array.getElem?_toList, h1]
  have h2 : j < (flatK enc k xs.toArray).size := by rw [size_flatK]; simpa using hj'
  rw [Array.getElem?_toList, Array.getElem?_eq_getElem h2, ← getElem!_pos _ j h2]; rfl
omit hk k0
theorem heap_sortedV {w : World} {g n : Nat} {os : Array Obj} {cur : Array Value} {e : TypeId} {fr : Nat × Nat} (d : Array Value) (hb : w.heap[g]? = some (.cells cur e fr)) :
    (grow (putRow id (Sort.ahead w n) g 0 d) os).heap[g]? = some (.cells (putCells id 0 d cur) e fr) := by
  have hg : g < w.heap.size := (Array.getElem?_eq_some_iff.1 hb).1
  rw [heap_grow_old _ _ (by simpa using hg)]
  simp [putRow, mapBlock, Sort.ahead, Array.getElem?_modify, hb, onCells]
theorem grownBy_sortedK {w : World} {g n : Nat} {os : Array Obj} (d : Array α) : w.grownBy (sortWorldK enc k w g 0 n d os) (some g) := by
  unfold sortWorldK putRowK
  refine ⟨rfl, rfl, rfl, by simp, fun j hj hne => ?_⟩
  rw [heap_grow_old _ _ (by simpa using hj)]
  have : g ≠ j := fun e => hne (by rw [e])
  simp [putRow, mapBlock, Sort.ahead, Array.getElem?_modify, this]
theorem take_putCellsV (cur : Array Value) (ts : Array Value) (h : ts.size ≤ cur.size) : (putCells id 0 ts cur).toList.take ts.size = ts.toList := by
  apply List.ext_getElem?
  intro j
  by_cases hj : j < ts.size
  · rw [List.getElem?_take_of_lt hj, Array.getElem?_toList]
    simp [putCells, hj, show j < cur.size by omega]
  · rw [List.getElem?_take_eq_none (by omega), List.getElem?_eq_none (by simp; omega)]
include hk k0 in
/-- BEHIND THE SORT the same slice owns the sorted row. -/
theorem ownsRow_sortedK {w : World} {base g cap n m : Nat} {e : TypeId} {os : Array Obj} {cur : Array Value} {d : Array α} (hl : d.size = m) (hbase : base ≤ g) (hb : w.heap[g]? = some (.cells cur e (0, 0)))
    (h1 : m ≤ cap) (h2 : cap ≤ maxLen) (h3 : cur.size = cap * k) :
    (sortWorldK enc k w g 0 n d os).ownsRow base e k (.slice (some ⟨g, 0, none⟩) m cap) m (d.toList.flatMap enc) := by
  have hs : (flatK enc k d).size ≤ cur.size := by rw [size_flatK, h3, hl]; exact Nat.mul_le_mul_right k h1
  refine ⟨by rw [flat_len enc k hk]; simp [hl], .inr ⟨g, cap, _, rfl, hbase, heap_sortedV (flatK enc k d) hb, h1, h2, by simp [putCells, h3], ?_⟩⟩
  have z := take_putCellsV cur (flatK enc k d) hs
  rw [size_flatK, hl] at z
  rw [z, flatK_list enc k hk k0]
theorem cell_sortedK {w : World} {g n : Nat} {os : Array Obj} (d : Array α) {a : Addr} {v : Value} (ha : w.cell? a = some v) (hne : a.block ≠ g) : (sortWorldK enc k w g 0 n d os).cell? a = some v := by
  have := (grownBy_sortedK (os := os) (n := n) (g := g) enc k (w := w) d)
  rw [World.cell?_of_block (this.block a.block (World.block_lt_of_cell? w a ha) (by simpa using hne))]
  exact ha
end
end Go.Proofs.YtmgpaccgjafjeaaHS
