/- record.File: what it holds; plain facts. -/
import Derived.Test.YtmgpaccgjafjeaaHVR3
import Derived.Test.YtmgpaccgjafjeaaHE
import Derived.Test.YtmgpaccgjafjeaaPG28x4
namespace Go.Proofs.YtmgpaccgjafjeaaHVR
open Go.RowKit Go.Maps Go.Sort Go.Shelf Go.Lib Go.Proofs.YtmgpaccgjafjeaaW.PrintWords Go.Proofs.YtmgpaccgjafjeaaHW Go.Proofs.YtmgpaccgjafjeaaHG Go.Proofs.Ytmgpaccgjafjeaa.PG28 Go.Proofs.YtmgpaccgjafjeaaHT
set_option linter.unusedVariables false
set_option linter.unusedSimpArgs false
abbrev ZS : Value := .agg #[.string ⟨#[]⟩, .string ⟨#[]⟩, .string ⟨#[]⟩, .int .u32 0, .bool false]
abbrev ZN : Value := .agg #[.string ⟨#[]⟩]
/-- Whether a subscriber may be. -/
def okS (x : El) : Bool := decide (1 ≤ x.f0.size ∧ x.f0.size ≤ 32 ∧ 1 ≤ x.f2.size ∧ x.f2.size ≤ 32 ∧ x.f1.size ≤ 32 ∧ x.f3 ≠ 0)
def atA (ls : List El) (a : Int) : Option El := ls.find? (fun x => decide (x.f3 = a))
/-- Whose an address is. -/
def mapAt (ls : List El) : Lit → Option Value
  | .int .u32 a => (atA ls a).map (fun x => .agg #[.string x.f0])
  | _ => none
structure Valid (ls : List El) : Prop where
  up : Up nm ls
  ok : ∀ x ∈ ls, okS x = true
  ad : ∀ x ∈ ls, ∀ y ∈ ls, x.f3 = y.f3 → x = y
  rg : ∀ x ∈ ls, 0 ≤ x.f3 ∧ x.f3 < 4294967296
theorem Valid.nil : Valid [] := ⟨Up.nil, fun x h => by simp at h, fun x h => by simp at h, fun x h => by simp at h⟩
theorem atA_some {ls : List El} {a : Int} {x : El} (h : atA ls a = some x) : x ∈ ls ∧ x.f3 = a := by
  unfold atA at h
  exact ⟨List.mem_of_find?_eq_some h, by simpa using List.find?_some h⟩
theorem atA_none {ls : List El} {a : Int} (h : atA ls a = none) : ∀ x ∈ ls, x.f3 ≠ a := by
  unfold atA at h
  intro x hx
  simpa using List.find?_eq_none.mp h x hx
theorem atA_mem {ls : List El} (hv : ∀ x ∈ ls, ∀ y ∈ ls, x.f3 = y.f3 → x = y) {x : El} (hx : x ∈ ls) : atA ls x.f3 = some x := by
  cases h : atA ls x.f3 with
  | none => exact absurd rfl (atA_none h x hx)
  | some y =>
    obtain ⟨h1, h2⟩ := atA_some h
    rw [hv y h1 x hx h2]
theorem atA_not {ls : List El} {a : Int} (h : ∀ x ∈ ls, x.f3 ≠ a) : atA ls a = none := by
  cases hh : atA ls a with
  | none => rfl
  | some y => exact absurd (atA_some hh).2 (h y (atA_some hh).1)
/-- One is put. -/
def putL (ls : List El) (x : El) : List El := ins nm (del nm ls x.f0) x
theorem del_get {ls : List El} (hu : Up nm ls) (s : ByteArray) : get nm (del nm ls s) s = none := by rw [get_del hu, if_pos rfl]
theorem mem_put {ls : List El} {x y : El} : y ∈ putL ls x ↔ y = x ∨ (y ∈ ls ∧ y.f0 ≠ x.f0) := by
  unfold putL
  rw [mem_ins, mem_del]; rfl
theorem put_len {ls : List El} (hu : Up nm ls) (x : El) : (putL ls x).length = if (get nm ls x.f0).isSome = true then ls.length else ls.length + 1 := by
  unfold putL
  rw [ins_len]
  cases hg : get nm ls x.f0 with
  | none => rw [del_none hg]; rfl
  | some y => exact del_len hu hg
theorem put_up {ls : List El} (hu : Up nm ls) (x : El) : Up nm (putL ls x) := (hu.del x.f0).ins (del_get hu x.f0)
theorem mapOf_put {ls : List El} (hu : Up nm ls) (x : El) : mput (mapOf ls) (.string x.f0.data.toList) (encV x) = mapOf (putL ls x) := by
  have h := mapOf_ins (hu.del x.f0) (x := x) (del_get hu x.f0)
  unfold putL
  rw [← h, ← mapOf_del hu]
  funext l
  unfold mput mdel
  split <;> simp_all
/-- Another one has the address. -/
def clash (ls : List El) (x : El) : Bool := match atA ls x.f3 with | some y => decide (y.f0 ≠ x.f0) | none => false
theorem clash_no {ls : List El} {x : El} (h : clash ls x = false) : ∀ y ∈ ls, y.f3 = x.f3 → (∀ a ∈ ls, ∀ b ∈ ls, a.f3 = b.f3 → a = b) → y.f0 = x.f0 := by
  intro y hy e hv
  unfold clash at h
  rw [← e, atA_mem hv hy] at h
  simpa using h
theorem put_valid {ls : List El} (hv : Valid ls) {x : El} (hk : okS x = true) (hc : clash ls x = false) (h0 : 0 ≤ x.f3) (h1 : x.f3 < 4294967296) : Valid (putL ls x) := by
  refine ⟨put_up hv.up x, fun y hy => ?_, fun y hy z hz e => ?_, fun y hy => ?_⟩
  · rcases mem_put.mp hy with rfl | ⟨h, _⟩
    · exact hk
    · exact hv.ok y h
  · rcases mem_put.mp hy with rfl | ⟨hy1, ny⟩
    · rcases mem_put.mp hz with e2 | ⟨hz1, nz⟩
      · exact e2.symm
      · exact absurd (clash_no hc z hz1 e.symm hv.ad) nz
    · rcases mem_put.mp hz with e2 | ⟨hz1, nz⟩
      · subst e2; exact absurd (clash_no hc y hy1 e hv.ad) ny
      · exact hv.ad y hy1 z hz1 e
  · rcases mem_put.mp hy with rfl | ⟨h, _⟩
    · exact ⟨h0, h1⟩
    · exact hv.rg y h
theorem del_valid {ls : List El} (hv : Valid ls) (s : ByteArray) : Valid (del nm ls s) :=
  ⟨hv.up.del s, fun y hy => hv.ok y (mem_del.mp hy).1, fun y hy z hz e => hv.ad y (mem_del.mp hy).1 z (mem_del.mp hz).1 e, fun y hy => hv.rg y (mem_del.mp hy).1⟩
theorem atA_put {ls : List El} (hv : Valid ls) {x : El} (hp : Valid (putL ls x)) (a : Int) : atA (putL ls x) a = if x.f3 = a then some x else (atA ls a).bind (fun y => if y.f0 = x.f0 then none else some y) := by
  split
  · rename_i e
    subst e
    exact atA_mem hp.ad (mem_put.mpr (.inl rfl))
  · rename_i e
    cases h : atA ls a with
    | none =>
      refine atA_not fun y hy e2 => ?_
      rcases mem_put.mp hy with rfl | ⟨hy, _⟩
      · exact e e2
      · exact atA_none h y hy e2
    | some y =>
      obtain ⟨h1, h2⟩ := atA_some h
      show _ = if y.f0 = x.f0 then none else some y
      split
      · rename_i e3
        refine atA_not fun z hz e2 => ?_
        rcases mem_put.mp hz with rfl | ⟨hz, nz⟩
        · exact e e2
        · have := hv.ad z hz y h1 (by rw [e2, h2])
          rw [this] at nz
          exact nz e3
      · rename_i e3
        rw [← h2]
        exact atA_mem hp.ad (mem_put.mpr (.inr ⟨h1, e3⟩))
theorem atA_del {ls : List El} (hv : Valid ls) (s : ByteArray) (a : Int) : atA (del nm ls s) a = (atA ls a).bind (fun y => if y.f0 = s then none else some y) := by
  cases h : atA ls a with
  | none => exact atA_not fun y hy e2 => atA_none h y (mem_del.mp hy).1 e2
  | some y =>
    obtain ⟨h1, h2⟩ := atA_some h
    show _ = if y.f0 = s then none else some y
    split
    · rename_i e3
      refine atA_not fun z hz e2 => ?_
      obtain ⟨hz, nz⟩ := mem_del.mp hz
      have := hv.ad z hz y h1 (by rw [e2, h2])
      rw [this] at nz
      exact nz e3
    · rename_i e3
      rw [← h2]
      exact atA_mem (del_valid hv s).ad (mem_del.mpr ⟨h1, e3⟩)
/-- A new one's address. -/
theorem mapAt_new {ls : List El} (hv : Valid ls) {x : El} (hp : Valid (putL ls x)) (hg : get nm ls x.f0 = none) : mput (mapAt ls) (.int .u32 x.f3) (.agg #[.string x.f0]) = mapAt (putL ls x) := by
  funext l
  unfold mput
  split
  · rename_i e
    subst e
    show _ = (atA (putL ls x) x.f3).map _
    rw [atA_put hv hp, if_pos rfl]; rfl
  · rename_i e
    unfold mapAt
    split
    · rename_i a
      rw [atA_put hv hp, if_neg (fun e2 => e (by rw [e2]))]
      cases h : atA ls a with
      | none => rfl
      | some y =>
        show _ = Option.map _ (if y.f0 = x.f0 then none else some y)
        rw [if_neg (show ¬ y.f0 = x.f0 from get_none hg y (atA_some h).1)]
    · rfl
/-- One's new address. -/
theorem mapAt_old {ls : List El} (hv : Valid ls) {x o : El} (hp : Valid (putL ls x)) (hg : get nm ls x.f0 = some o) : mput (mdel (mapAt ls) (.int .u32 o.f3)) (.int .u32 x.f3) (.agg #[.string x.f0]) = mapAt (putL ls x) := by
  obtain ⟨ho, en⟩ := get_some hg
  funext l
  unfold mput
  split
  · rename_i e
    subst e
    show _ = (atA (putL ls x) x.f3).map _
    rw [atA_put hv hp, if_pos rfl]; rfl
  · rename_i e
    unfold mdel
    split
    · rename_i e2
      subst e2
      show _ = (atA (putL ls x) o.f3).map _
      rw [atA_put hv hp, if_neg (fun e2 => e (by rw [e2])), atA_mem hv.ad ho]
      show _ = Option.map _ (if o.f0 = x.f0 then none else some o)
      rw [if_pos (show o.f0 = _ from en)]; rfl
    · rename_i e2
      unfold mapAt
      split
      · rename_i a
        rw [atA_put hv hp, if_neg (fun e2 => e (by rw [e2]))]
        cases h : atA ls a with
        | none => rfl
        | some y =>
          obtain ⟨h1, h2⟩ := atA_some h
          show _ = Option.map _ (if y.f0 = x.f0 then none else some y)
          rw [if_neg (fun e3 => e2 (by
            have : get nm ls y.f0 = some y := get_of_mem hv.up h1
            rw [e3, hg] at this
            cases this
            exact congrArg _ h2.symm))]
      · rfl
theorem mapAt_del {ls : List El} (hv : Valid ls) {s : ByteArray} {o : El} (hg : get nm ls s = some o) : mdel (mapAt ls) (.int .u32 o.f3) = mapAt (del nm ls s) := by
  obtain ⟨ho, en⟩ := get_some hg
  funext l
  unfold mdel
  split
  · rename_i e2
    subst e2
    show _ = (atA (del nm ls s) o.f3).map _
    rw [atA_del hv, atA_mem hv.ad ho]
    show _ = Option.map _ (if o.f0 = s then none else some o)
    rw [if_pos (show o.f0 = _ from en)]; rfl
  · rename_i e2
    unfold mapAt
    split
    · rename_i a
      rw [atA_del hv]
      cases h : atA ls a with
      | none => rfl
      | some y =>
        obtain ⟨h1, h2⟩ := atA_some h
        show _ = Option.map _ (if y.f0 = s then none else some y)
        rw [if_neg (fun e3 => e2 (by
          have : get nm ls y.f0 = some y := get_of_mem hv.up h1
          rw [e3, hg] at this
          cases this
          exact congrArg _ h2.symm))]
    · rfl
/-- Block g is a file, whose maps are blocks b and c, and whose row is ls. -/
def FileAt (w : World) (g b c : Nat) (most : Int) (ls : List El) : Prop :=
  w.heap[g]? = some (.cells #[.map (some b), .map (some c), .int .i64 most] 125 (0, 0)) ∧ MapIs Try.prog 9 ZS w b (mapOf ls) ls.length ∧ MapIs Try.prog 22 ZN w c (mapAt ls) ls.length ∧ g ≠ b ∧ g ≠ c ∧ b ≠ c
theorem FileAt.below {w w' : World} {g b c : Nat} {most : Int} {ls : List El} (h : FileAt w g b c most ls) (hb : Below w.heap.size w w') : FileAt w' g b c most ls :=
  ⟨hw_below h.1 hb, h.2.1.heap (hb.block b h.2.1.lt), h.2.2.1.heap (hb.block c h.2.2.1.lt), h.2.2.2⟩
theorem FileAt.alloc {w : World} {g b c : Nat} {most : Int} {ls : List El} (h : FileAt w g b c most ls) (o : Obj) : FileAt (w.alloc o) g b c most ls := h.below ((Below.refl _ w).alloc (Nat.le_refl _) o)
theorem FileAt.drew {w : World} {g b c : Nat} {most : Int} {ls : List El} (h : FileAt w g b c most ls) : FileAt w.drew g b c most ls := h
/-- Which two blocks alone may turn of what was there. -/
def K2 (b c : Nat) (w w' : World) : Prop := w'.os = w.os ∧ w'.tape = w.tape ∧ w'.output = w.output ∧ w.heap.size ≤ w'.heap.size ∧ ∀ j, j < w.heap.size → j ≠ b → j ≠ c → w'.heap[j]? = w.heap[j]?
theorem K2.below {b c : Nat} {w w1 : World} (h : Below w.heap.size w w1) : K2 b c w w1 := ⟨h.os, h.tape, h.output, h.size, fun j hj _ _ => h.block j hj⟩
theorem K2.left {b c : Nat} {w w1 : World} (h : KB b w w1) : K2 b c w w1 := ⟨h.1, h.2.1, h.2.2.1, h.2.2.2.1, fun j hj hb _ => h.2.2.2.2 j hj hb⟩
theorem K2.right {b c : Nat} {w w1 : World} (h : KB c w w1) : K2 b c w w1 := ⟨h.1, h.2.1, h.2.2.1, h.2.2.2.1, fun j hj _ hc => h.2.2.2.2 j hj hc⟩
theorem K2.trans {b c : Nat} {w w1 w2 : World} (h : K2 b c w w1) (h' : K2 b c w1 w2) : K2 b c w w2 :=
  ⟨h'.1.trans h.1, h'.2.1.trans h.2.1, h'.2.2.1.trans h.2.2.1, Nat.le_trans h.2.2.2.1 h'.2.2.2.1, fun j hj hb hc => (h'.2.2.2.2 j (Nat.lt_of_lt_of_le hj h.2.2.2.1) hb hc).trans (h.2.2.2.2 j hj hb hc)⟩
theorem K2.block {b c g : Nat} {w w1 : World} {o : Obj} (hk : K2 b c w w1) (h : w.heap[g]? = some o) (hb : g ≠ b) (hc : g ≠ c) : w1.heap[g]? = some o := by
  rw [hk.2.2.2.2 g (Array.getElem?_eq_some_iff.1 h).1 hb hc]
  exact h
theorem K2.to_below {b c B : Nat} {w0 w w1 : World} (h : Below B w0 w) (hk : K2 b c w w1) (hb : B ≤ b) (hc : B ≤ c) (hs : B ≤ w.heap.size) : Below B w0 w1 :=
  ⟨hk.1.trans h.os, hk.2.1.trans h.tape, hk.2.2.1.trans h.output, Nat.le_trans h.size hk.2.2.2.1, fun j hj => (hk.2.2.2.2 j (by omega) (by omega) (by omega)).trans (h.block j hj)⟩
theorem keyS (s : ByteArray) (h : s.size ≤ 140737488351232) : keyOf Try.prog 9 (.string s) = some (.string s.data.toList) := Go.WideMaps.keyOf_string_mk Try.underlying9 (by unfold maxLen; omega)
theorem law32 : Maps.Keyed Try.prog 22 := Maps.int_keyed Try.underlying22
theorem key32 (a : Int) (h0 : 0 ≤ a) (h1 : a < 4294967296) : keyOf Try.prog 22 (.int .u32 a) = some (.int .u32 a) :=
  Maps.keyOf_int_mk Try.underlying22 (by simp only [Lit.wf, Bool.and_eq_true, decide_eq_true_eq]; exact ⟨h0, by show a ≤ 4294967295; omega⟩)
theorem zeroName (w : World) : (zeroValue 129).run Try.prog w = .ok ZN w := by kernel_rfl
theorem look_some {ls : List El} {s : ByteArray} {y : El} (h : get nm ls s = some y) : (mapOf ls (.string s.data.toList)).getD ZS = .agg #[.string y.f0, .string y.f1, .string y.f2, .int .u32 y.f3, .bool y.f4] ∧ (mapOf ls (.string s.data.toList)).isSome = true := by rw [mapOf_str, h]; exact ⟨rfl, rfl⟩
theorem look_none {ls : List El} {s : ByteArray} (h : get nm ls s = none) : (mapOf ls (.string s.data.toList)).getD ZS = .agg #[.string ⟨#[]⟩, .string ⟨#[]⟩, .string ⟨#[]⟩, .int .u32 0, .bool false] ∧ (mapOf ls (.string s.data.toList)).isSome = false := by rw [mapOf_str, h]; exact ⟨rfl, rfl⟩
/-- What a name has, or nothing's. -/
def oldV (ls : List El) (s : ByteArray) : El := (get nm ls s).getD z24
theorem look_any (ls : List El) (s : ByteArray) : (mapOf ls (.string s.data.toList)).getD ZS = encV (oldV ls s) ∧ (mapOf ls (.string s.data.toList)).isSome = (get nm ls s).isSome := by
  unfold oldV
  rw [mapOf_str]
  cases get nm ls s <;> exact ⟨rfl, rfl⟩
def whoV (ls : List El) (a : Int) : ByteArray := ((atA ls a).map (·.f0)).getD ⟨#[]⟩
theorem who_any (ls : List El) (a : Int) : (mapAt ls (.int .u32 a)).getD ZN = .agg #[.string (whoV ls a)] ∧ (mapAt ls (.int .u32 a)).isSome = (atA ls a).isSome := by
  unfold whoV
  show ((atA ls a).map _).getD _ = _ ∧ ((atA ls a).map _).isSome = _
  cases atA ls a <;> exact ⟨rfl, rfl⟩
theorem check_ok (x : El) : record_Check.f x.f0 x.f1 x.f2 x.f3 x.f4 = some (if okS x = true then 0 else 2) := by
  unfold record_Check.f record_in.f okS
  by_cases a1 : (x.f0.size : Int) ≥ 1 <;> by_cases a2 : (x.f0.size : Int) ≤ 32 <;> by_cases a3 : (x.f2.size : Int) ≥ 1 <;> by_cases a4 : (x.f2.size : Int) ≤ 32 <;> by_cases a5 : (x.f1.size : Int) ≤ 32 <;> by_cases a6 : x.f3 = 0 <;> simp [a1, a2, a3, a4, a5, a6] <;> omega
/-- A box of a subscriber. -/
theorem ElAt.alloc {W : World} {B : Nat} {x : El} (h : ElAt W B x) (o : Obj) : ElAt (W.alloc o) B x := h.kept (World.grownBy_alloc W o none) (by simp)
theorem ElAt.drew {W : World} {B : Nat} {x : El} (h : ElAt W B x) : ElAt W.drew B x := h
theorem elAt_call {W w1 : World} {B : Nat} {x : El} (h : ElAt W B x) (hb : Below W.heap.size W w1) : ElAt w1 B x := (hb.block B (Array.getElem?_eq_some_iff.1 h).1).trans h
theorem elAt_new (w : World) (x : El) : ElAt (w.alloc (Obj.cells #[.string x.f0, .string x.f1, .string x.f2, .int .u32 x.f3, .bool x.f4] 24)) w.heap.size x := World.alloc_heap_new w _
theorem elAt_at {W : World} {B : Nat} (x : El) (h : W.heap.size = B) : ElAt (W.alloc (Obj.cells #[.string x.f0, .string x.f1, .string x.f2, .int .u32 x.f3, .bool x.f4] 24)) B x := by subst h; exact World.alloc_heap_new W _
theorem elAt_cells {W : World} {B : Nat} {x : El} (h : ElAt W B x) : W.cell? ⟨B, 0, none⟩ = some (.string x.f0) ∧ W.cell? ⟨B, 1, none⟩ = some (.string x.f1) ∧ W.cell? ⟨B, 2, none⟩ = some (.string x.f2) ∧ W.cell? ⟨B, 3, none⟩ = some (.int .u32 x.f3) ∧ W.cell? ⟨B, 4, none⟩ = some (.bool x.f4) := ⟨h.cell 0, h.cell 1, h.cell 2, h.cell 3, h.cell 4⟩
def NmAt (W : World) (B : Nat) (s : ByteArray) : Prop := W.heap[B]? = some (.cells #[.string s] 129 (0, 0))
theorem NmAt.cell {W : World} {B : Nat} {s : ByteArray} (h : NmAt W B s) : W.cell? ⟨B, 0, none⟩ = some (.string s) := blk_cell h 0
theorem NmAt.below {W w1 : World} {B : Nat} {s : ByteArray} (h : NmAt W B s) (hb : Below W.heap.size W w1) : NmAt w1 B s := hw_below h hb
theorem drawn_below {w w1 : World} (h : Drawn0 w w1) : Below w.heap.size w w1 := by
  obtain ⟨nd, rfl⟩ := h
  exact pw_below_drewN (Below.refl _ _) nd
end Go.Proofs.YtmgpaccgjafjeaaHVR
