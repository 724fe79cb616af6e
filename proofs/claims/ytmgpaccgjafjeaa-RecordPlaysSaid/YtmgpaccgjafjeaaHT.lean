/- Rows that rise by a name: what is found, put, and left out; plain lists. -/
import Init
namespace Go.Proofs.YtmgpaccgjafjeaaHT
set_option linter.unusedVariables false
set_option linter.unusedSimpArgs false
section
variable {α : Type} (nm : α → ByteArray)
/-- Names' order: by their bytes. -/
def lt (s t : ByteArray) : Bool := decide (s.data.toList < t.data.toList)
theorem lt_irrefl (s : ByteArray) : lt s s = false := by unfold lt; exact decide_eq_false (List.lt_irrefl _)
theorem lt_trans {s t u : ByteArray} (h1 : lt s t = true) (h2 : lt t u = true) : lt s u = true := by
  unfold lt at *; exact decide_eq_true (List.lt_trans (of_decide_eq_true h1) (of_decide_eq_true h2))
theorem lt_total {s t : ByteArray} (h1 : lt s t = false) (h2 : lt t s = false) : s = t := by
  unfold lt at *
  have h1 := of_decide_eq_false h1
  have h2 := of_decide_eq_false h2
  have : s.data.toList = t.data.toList := List.le_antisymm (List.not_lt.mp h2) (List.not_lt.mp h1)
  have : s.data = t.data := Array.ext' this
  cases s; cases t; simp_all
theorem lt_asymm {s t : ByteArray} (h : lt s t = true) : lt t s = false := by
  cases h2 : lt t s with
  | false => rfl
  | true => have := lt_trans h h2; rw [lt_irrefl] at this; exact absurd this (by simp)
/-- A row rises. -/
def Up (ls : List α) : Prop := ls.Pairwise (fun a b => lt (nm a) (nm b) = true)
def get (ls : List α) (s : ByteArray) : Option α := ls.find? (fun x => decide (nm x = s))
/-- Where a name stands, or would stand. -/
def ix (ls : List α) (s : ByteArray) : Nat := (ls.takeWhile (fun x => lt (nm x) s)).length
def ins (ls : List α) (x : α) : List α := ls.take (ix nm ls (nm x)) ++ x :: ls.drop (ix nm ls (nm x))
def del (ls : List α) (s : ByteArray) : List α := ls.filter (fun x => decide (nm x ≠ s))
variable {nm}
theorem Up.nil : Up nm [] := List.Pairwise.nil
theorem Up.tail {a : α} {ls : List α} (h : Up nm (a :: ls)) : Up nm ls := (List.pairwise_cons.mp h).2
theorem Up.head {a : α} {ls : List α} (h : Up nm (a :: ls)) : ∀ x ∈ ls, lt (nm a) (nm x) = true := (List.pairwise_cons.mp h).1
theorem ix_le (ls : List α) (s : ByteArray) : ix nm ls s ≤ ls.length := by
  unfold ix; exact (List.takeWhile_prefix _).length_le
theorem ix_nil (s : ByteArray) : ix nm ([] : List α) s = 0 := rfl
theorem ix_cons (a : α) (ls : List α) (s : ByteArray) : ix nm (a :: ls) s = if lt (nm a) s = true then ix nm ls s + 1 else 0 := by
  unfold ix
  rw [List.takeWhile_cons]
  cases lt (nm a) s <;> simp
/-- Below its place all are less. -/
theorem ix_below : ∀ (ls : List α) (s : ByteArray) (j : Nat) (x : α), j < ix nm ls s → ls[j]? = some x → lt (nm x) s = true
  | [], s, j, x, h, _ => by simp [ix_nil] at h
  | a :: ls, s, j, x, h, hx => by
    rw [ix_cons] at h
    split at h
    · rename_i ha
      cases j with
      | zero => simp at hx; subst hx; exact ha
      | succ j => simp at hx; exact ix_below ls s j x (by omega) hx
    · omega
/-- At its place stands none that is less. -/
theorem ix_at : ∀ (ls : List α) (s : ByteArray) (x : α), ls[ix nm ls s]? = some x → lt (nm x) s = false
  | [], s, x, h => by simp at h
  | a :: ls, s, x, h => by
    rw [ix_cons] at h
    split at h
    · exact ix_at ls s x (by simpa using h)
    · rename_i ha; simp at h; subst h; simpa using ha
theorem ix_of (ls : List α) (s : ByteArray) (i : Nat) (hi : i ≤ ls.length) (hb : ∀ j, j < i → ∀ x, ls[j]? = some x → lt (nm x) s = true) (ha : ∀ x, ls[i]? = some x → lt (nm x) s = false) : ix nm ls s = i := by
  rcases Nat.lt_trichotomy (ix nm ls s) i with h | h | h
  · obtain ⟨x, hx⟩ : ∃ x, ls[ix nm ls s]? = some x := ⟨_, List.getElem?_eq_getElem (by omega)⟩
    have h1 := hb _ h x hx
    rw [ix_at ls s x hx] at h1
    exact absurd h1 (by simp)
  · exact h
  · have hl := ix_le (nm := nm) ls s
    obtain ⟨x, hx⟩ : ∃ x, ls[i]? = some x := ⟨_, List.getElem?_eq_getElem (by omega)⟩
    have h1 := ix_below ls s i x h hx
    rw [ha x hx] at h1
    exact absurd h1 (by simp)
theorem get_some {ls : List α} {s : ByteArray} {x : α} (h : get nm ls s = some x) : x ∈ ls ∧ nm x = s := by
  unfold get at h
  exact ⟨List.mem_of_find?_eq_some h, by simpa using List.find?_some h⟩
theorem get_none {ls : List α} {s : ByteArray} (h : get nm ls s = none) : ∀ x ∈ ls, nm x ≠ s := by
  unfold get at h
  intro x hx
  have := List.find?_eq_none.mp h x hx
  simpa using this
theorem get_of_mem {ls : List α} (hu : Up nm ls) {x : α} (hx : x ∈ ls) : get nm ls (nm x) = some x := by
  induction ls with
  | nil => simp at hx
  | cons a ls ih =>
    unfold get
    rw [List.find?_cons]
    by_cases e : nm a = nm x
    · rw [show decide (nm a = nm x) = true from decide_eq_true e]
      rcases List.mem_cons.mp hx with rfl | h
      · rfl
      · have := hu.head x h
        rw [e, lt_irrefl] at this
        exact absurd this (by simp)
    · rw [show decide (nm a = nm x) = false from decide_eq_false e]
      rcases List.mem_cons.mp hx with rfl | h
      · exact absurd rfl e
      · exact ih hu.tail h
/-- A name is there just if it stands at its place. -/
theorem get_ix {ls : List α} (hu : Up nm ls) (s : ByteArray) : get nm ls s = match ls[ix nm ls s]? with | some x => if nm x = s then some x else none | none => none := by
  induction ls with
  | nil => simp [get, ix_nil]
  | cons a ls ih =>
    rw [ix_cons]
    unfold get
    rw [List.find?_cons]
    by_cases e : nm a = s
    · subst e
      simp [lt_irrefl]
    · rw [show decide (nm a = s) = false from decide_eq_false e]
      cases hl : lt (nm a) s with
      | true => simp only [if_true, List.getElem?_cons_succ]; exact ih hu.tail
      | false =>
        simp only [Bool.false_eq_true, if_false, List.getElem?_cons_zero, if_neg e]
        refine List.find?_eq_none.mpr (fun x hx => ?_)
        simp only [decide_eq_true_eq]
        intro ex
        have h1 := hu.head x hx
        rw [ex] at h1
        rw [hl] at h1
        exact absurd h1 (by simp)
theorem ix_get {ls : List α} (hu : Up nm ls) {s : ByteArray} {x : α} (h : get nm ls s = some x) : ls[ix nm ls s]? = some x ∧ nm x = s := by
  have h2 := (get_some h).2
  rw [get_ix hu] at h
  cases hx : ls[ix nm ls s]? with
  | none => rw [hx] at h; simp at h
  | some y =>
    rw [hx] at h
    simp only at h
    split at h
    · exact ⟨h, h2⟩
    · exact absurd h (by simp)
theorem ix_none {ls : List α} (hu : Up nm ls) {s : ByteArray} (h : get nm ls s = none) : ∀ x, ls[ix nm ls s]? = some x → nm x ≠ s := fun x hx => get_none h x (List.mem_of_getElem? hx)
theorem drop_ge {ls : List α} (hu : Up nm ls) (s : ByteArray) : ∀ x ∈ ls.drop (ix nm ls s), lt (nm x) s = false := by
  induction ls with
  | nil => simp
  | cons a ls ih =>
    rw [ix_cons]
    cases hl : lt (nm a) s with
    | true => simp only [if_true, List.drop_succ_cons]; exact ih hu.tail
    | false =>
      simp only [Bool.false_eq_true, if_false, List.drop_zero]
      intro x hx
      rcases List.mem_cons.mp hx with rfl | h
      · exact hl
      · cases h2 : lt (nm x) s with
        | false => rfl
        | true => have := lt_trans (hu.head x h) h2; rw [hl] at this; exact absurd this (by simp)
theorem take_lt (ls : List α) (s : ByteArray) : ∀ x ∈ ls.take (ix nm ls s), lt (nm x) s = true := by
  intro x hx
  obtain ⟨j, hj, hx⟩ := List.mem_iff_getElem.mp hx
  rw [List.length_take] at hj
  exact ix_below ls s j x (by omega) (by rw [← hx, List.getElem_take, List.getElem?_eq_getElem])
theorem Up.ins {ls : List α} (hu : Up nm ls) {x : α} (h : get nm ls (nm x) = none) : Up nm (ins nm ls x) := by
  show (Go.Proofs.YtmgpaccgjafjeaaHT.ins nm ls x).Pairwise _
  unfold Go.Proofs.YtmgpaccgjafjeaaHT.ins
  refine List.pairwise_append.mpr ⟨hu.sublist (List.take_sublist _ _), ?_, ?_⟩
  · refine List.pairwise_cons.mpr ⟨fun y hy => ?_, hu.sublist (List.drop_sublist _ _)⟩
    have h1 := drop_ge hu (nm x) y hy
    cases h2 : lt (nm x) (nm y) with
    | true => rfl
    | false => exact absurd (lt_total h1 h2) (get_none h y (List.mem_of_mem_drop hy))
  · intro a ha b hb
    have h1 := take_lt ls (nm x) a ha
    rcases List.mem_cons.mp hb with rfl | hb
    · exact h1
    · have h2 := drop_ge hu (nm x) b hb
      cases h3 : lt (nm a) (nm b) with
      | true => rfl
      | false =>
        cases h4 : lt (nm b) (nm a) with
        | true => have := lt_trans h4 h1; rw [h2] at this; exact absurd this (by simp)
        | false => have := lt_total h3 h4; rw [this, h2] at h1; exact absurd h1 (by simp)
theorem Up.del {ls : List α} (hu : Up nm ls) (s : ByteArray) : Up nm (del nm ls s) := hu.sublist List.filter_sublist
theorem ins_len (ls : List α) (x : α) : (ins nm ls x).length = ls.length + 1 := by
  unfold ins
  have := ix_le (nm := nm) ls (nm x)
  rw [List.length_append, List.length_take, List.length_cons, List.length_drop]; omega
theorem mem_ins {ls : List α} {x y : α} : y ∈ ins nm ls x ↔ y = x ∨ y ∈ ls := by
  unfold ins
  rw [List.mem_append, List.mem_cons]
  conv => rhs; rw [← List.take_append_drop (ix nm ls (nm x)) ls, List.mem_append]
  constructor
  · rintro (h | h | h)
    · exact .inr (.inl h)
    · exact .inl h
    · exact .inr (.inr h)
  · rintro (h | h | h)
    · exact .inr (.inl h)
    · exact .inl h
    · exact .inr (.inr h)
theorem mem_del {ls : List α} {s : ByteArray} {y : α} : y ∈ del nm ls s ↔ y ∈ ls ∧ nm y ≠ s := by
  unfold del; simp
theorem get_iff {ls : List α} (hu : Up nm ls) {s : ByteArray} {x : α} : get nm ls s = some x ↔ x ∈ ls ∧ nm x = s :=
  ⟨get_some, fun ⟨h1, h2⟩ => h2 ▸ get_of_mem hu h1⟩
theorem get_ins {ls : List α} (hu : Up nm ls) {x : α} (h : get nm ls (nm x) = none) (s : ByteArray) : get nm (ins nm ls x) s = if nm x = s then some x else get nm ls s := by
  have hu' := hu.ins h
  split
  · rename_i e
    exact (get_iff hu').mpr ⟨mem_ins.mpr (.inl rfl), e⟩
  · rename_i e
    cases hg : get nm ls s with
    | some y =>
      obtain ⟨h1, h2⟩ := get_some hg
      exact (get_iff hu').mpr ⟨mem_ins.mpr (.inr h1), h2⟩
    | none =>
      cases hg' : get nm (ins nm ls x) s with
      | none => rfl
      | some y =>
        obtain ⟨h1, h2⟩ := get_some hg'
        rcases mem_ins.mp h1 with rfl | h1
        · exact absurd h2 e
        · exact absurd h2 (get_none hg y h1)
theorem get_del {ls : List α} (hu : Up nm ls) (t s : ByteArray) : get nm (del nm ls t) s = if t = s then none else get nm ls s := by
  have hu' := hu.del t
  cases hg' : get nm (del nm ls t) s with
  | some y =>
    obtain ⟨h1, h2⟩ := get_some hg'
    obtain ⟨h3, h4⟩ := mem_del.mp h1
    rw [if_neg (fun e => h4 (by rw [h2, e]))]
    exact ((get_iff hu).mpr ⟨h3, h2⟩).symm
  | none =>
    split
    · rfl
    · rename_i e
      cases hg : get nm ls s with
      | none => rfl
      | some y =>
        obtain ⟨h1, h2⟩ := get_some hg
        have := (get_iff hu').mpr ⟨mem_del.mpr ⟨h1, fun e' => e (by rw [← e', h2])⟩, h2⟩
        rw [hg'] at this; exact absurd this (by simp)
theorem del_none {ls : List α} {s : ByteArray} (h : get nm ls s = none) : del nm ls s = ls := by
  unfold del
  rw [List.filter_eq_self]
  intro x hx
  simpa using get_none h x hx
theorem del_ix {ls : List α} (hu : Up nm ls) {s : ByteArray} {x : α} (h : get nm ls s = some x) : del nm ls s = ls.take (ix nm ls s) ++ ls.drop (ix nm ls s + 1) := by
  obtain ⟨hx, e⟩ := ix_get hu h
  obtain ⟨hl, hx'⟩ := List.getElem?_eq_some_iff.mp hx
  have e1 : ls.drop (ix nm ls s) = x :: ls.drop (ix nm ls s + 1) := by rw [List.drop_eq_getElem_cons hl, hx']
  have e2 : ls = ls.take (ix nm ls s) ++ x :: ls.drop (ix nm ls s + 1) := by rw [← e1, List.take_append_drop]
  unfold del
  conv => lhs; rw [e2]
  rw [List.filter_append, List.filter_cons]
  have f1 : (ls.take (ix nm ls s)).filter (fun x => decide (nm x ≠ s)) = ls.take (ix nm ls s) := by
    rw [List.filter_eq_self]
    intro y hy
    have := take_lt ls s y hy
    simp only [ne_eq, decide_eq_true_eq, decide_not, Bool.not_eq_true']
    exact decide_eq_false (fun e => by rw [e, lt_irrefl] at this; exact absurd this (by simp))
  have f2 : (ls.drop (ix nm ls s + 1)).filter (fun x => decide (nm x ≠ s)) = ls.drop (ix nm ls s + 1) := by
    rw [List.filter_eq_self]
    intro y hy
    have hp : (x :: ls.drop (ix nm ls s + 1)).Pairwise (fun a b => lt (nm a) (nm b) = true) := by rw [← e1]; exact hu.sublist (List.drop_sublist _ _)
    have := (List.pairwise_cons.mp hp).1 y hy
    rw [e] at this
    simp only [ne_eq, decide_not, Bool.not_eq_true']
    exact decide_eq_false (fun e => by rw [e, lt_irrefl] at this; exact absurd this (by simp))
  rw [f1, f2, if_neg (by simp [e])]
theorem del_len {ls : List α} (hu : Up nm ls) {s : ByteArray} {x : α} (h : get nm ls s = some x) : (del nm ls s).length + 1 = ls.length := by
  rw [del_ix hu h]
  obtain ⟨hx, _⟩ := ix_get hu h
  obtain ⟨hl, _⟩ := List.getElem?_eq_some_iff.mp hx
  rw [List.length_append, List.length_take, List.length_drop]; omega
/-- Two rising rows with the same members are one. -/
theorem Up.ext : ∀ {ls ms : List α}, Up nm ls → Up nm ms → (∀ x, x ∈ ls ↔ x ∈ ms) → ls = ms
  | [], [], _, _, _ => rfl
  | [], b :: ms, _, _, h => absurd ((h b).mpr List.mem_cons_self) (by simp)
  | a :: ls, [], _, _, h => absurd ((h a).mp List.mem_cons_self) (by simp)
  | a :: ls, b :: ms, hu, hv, h => by
    have e : a = b := by
      rcases List.mem_cons.mp ((h a).mp List.mem_cons_self) with e | h1
      · exact e
      · rcases List.mem_cons.mp ((h b).mpr List.mem_cons_self) with e | h2
        · exact e.symm
        · have := lt_asymm (hu.head b h2)
          rw [hv.head a h1] at this; exact absurd this (by simp)
    subst e
    have : ls = ms := Up.ext hu.tail hv.tail (fun x => by
      constructor
      · intro hx
        rcases List.mem_cons.mp ((h x).mp (List.mem_cons_of_mem _ hx)) with e | h1
        · subst e; have := hu.head x hx; rw [lt_irrefl] at this; exact absurd this (by simp)
        · exact h1
      · intro hx
        rcases List.mem_cons.mp ((h x).mpr (List.mem_cons_of_mem _ hx)) with e | h1
        · subst e; have := hv.head x hx; rw [lt_irrefl] at this; exact absurd this (by simp)
        · exact h1)
    rw [this]
end
end Go.Proofs.YtmgpaccgjafjeaaHT
