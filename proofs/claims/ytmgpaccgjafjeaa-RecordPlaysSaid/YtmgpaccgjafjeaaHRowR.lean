/- Rows that are the call's own: parts appended. -/
import Derived.Test.YtmgpaccgjafjeaaHVR3
import Derived.Maps.AppendAt
import Derived.Laws.OwnMore
import Derived.Laws.AppendOwnNone
import Derived.Deep.AppendLies
namespace Go.Proofs.YtmgpaccgjafjeaaHVR
open Go.RowKit Go.Maps Go.Sort Go.Shelf Go.Lib Go.Proofs.YtmgpaccgjafjeaaW.PrintWords Go.Proofs.YtmgpaccgjafjeaaHW Go.Proofs.YtmgpaccgjafjeaaHG Go.Proofs.Ytmgpaccgjafjeaa.PG28 Go.Proofs.YtmgpaccgjafjeaaHT
set_option linter.unusedVariables false
set_option linter.unusedSimpArgs false
theorem set_other' {w : World} {p : Addr} {v : Value} {g : Nat} (h : g ≠ p.block) : (w.setCell p v).heap[g]? = w.heap[g]? := Below.heap_setCell _ _ _ _ h
theorem KB_set {g k : Nat} {w w5 : World} (h : Below w.heap.size w w5) (v : Value) : KB g w (w5.setCell ⟨g, k, none⟩ v) := by
  have h0 := (Below.refl 0 w5).setCell (p := ⟨g, k, none⟩) (Nat.zero_le _) v
  exact ⟨h0.os.trans h.os, h0.tape.trans h.tape, h0.output.trans h.output, Nat.le_trans h.size h0.size, fun j hj hne => (set_other' (w := w5) (p := ⟨g, k, none⟩) (v := v) (g := j) (fun e => hne e)).trans (h.block j hj)⟩
/-- A slice's elements, where they lie. -/
def Src (w : World) (u : Value) (m : Nat) (news : List Value) : Prop := (∃ c, u = .slice none 0 c ∧ m = 0 ∧ news = []) ∨ ∃ ad c, u = .slice (some ad) m c ∧ news.length = m * 5 ∧ ∀ j y, news[j]? = some y → w.cell? (ad.add j) = some y
section
variable {P : Program} (w : World) {ops : Array Oper} {rest : List Oper} {o : Oper} {a : Act} {Q : Exit → Act → World → Prop}
theorem run_appendN {base : Nat} {t ty e : TypeId} {i : TypeInfo} {size : Nat} (ht : P.underlying t = some (.slice e)) (hi : P.info? e = some i)
    (v : Value) (n : Nat) (xs : List Value) (hown : w.ownsRow base e size v n xs) (c : Nat) :
    (Builtin.append_ #[t, t] ty #[v, .slice none 0 c]).run P w = .ok v w := by
  rcases hown.2 with ⟨rfl, rfl⟩ | ⟨g, cap, cur, rfl, _, _, hnc, _⟩
  · simp [Builtin.append_, run_underlying ht, sizeOf, typeInfo, hi, Builtin.lenOf, Builtin.firstCells]
  · simp [Builtin.append_, run_underlying ht, sizeOf, typeInfo, hi, Builtin.lenOf, Builtin.firstCells, hnc, storeCells]
theorem wp_appendC (hgd : o.guard = none) (s x : Operand) (t : TypeId) (ho : o.op = .call { callee := .builtin .append, args := #[s, x], argTypes := #[t, t] })
    (base : Nat) (e : TypeId) (z : Value) (bytes : Nat) (ht : P.underlying t = some (.slice e)) (hinfo : (P.info? e).map (fun i => (i.zero, i.size, i.bytes)) = some (some z, 5, bytes)) (hzs : z.cells.size = 5)
    (v : Value) (n : Nat) (xs : List Value) (hs : a.eval s = v) (hown : w.ownsRow base e 5 v n xs) (u : Value) (m : Nat) (news : List Value) (hx : a.eval x = u) (hsrc : Src w u m news) (h1 : ∀ u ∈ news, u.oneCell' = true)
    (h63 : n + m ≤ maxLen) (hbytes : (n + m) * bytes ≤ 140737488355328) (hbase : base ≤ w.heap.size)
    (h : ∀ v' w', w'.ownsRow base e 5 v' (n + m) (xs ++ news) → w.grownBy w' v.ownBlock → wpList P ops Q rest (a.put o.dst v') w') : wpList P ops Q (o :: rest) a w := by
  obtain ⟨i0, hi, hzz⟩ := Option.map_eq_some_iff.1 hinfo
  simp only [Prod.mk.injEq] at hzz
  obtain ⟨hz0, hz1, hz2⟩ := hzz
  rcases hsrc with ⟨c, rfl, rfl, rfl⟩ | ⟨ad, c, rfl, hl, hn⟩
  · refine wpList_plain hgd fun K hK => ?_
    have hrun := run_appendN (P := P) w (ty := o.type) ht hi v n xs hown c
    unfold Oper.wp execOp
    simp only [ho, resolve, invoke, builtin, Sem.run_bind, Sem.run_pure, Result.andThen_ok, List.map_toArray, List.map_cons, List.map_nil, hs, hx, hrun]
    exact hK _ _ (h v w (by simpa using hown) ⟨rfl, rfl, rfl, Nat.le_refl _, fun _ _ _ => rfl⟩)
  · exact wpList_append_own_at w hgd s x t ho base e i0 z 5 bytes ht hi hz0 hz1 hz2 hzs (by omega) v n xs hs hown ad m c news hx hl hn h1 h63 hbytes hbase (fun v' w' q1 q2 _ _ => h v' w' q1 q2)
theorem step_appendC {K : Act → World → Prop} {E : Prop} (hgd : o.guard = none) (s x : Operand) (t : TypeId) (ho : o.op = .call { callee := .builtin .append, args := #[s, x], argTypes := #[t, t] })
    (base : Nat) (e : TypeId) (z : Value) (bytes : Nat) (ht : P.underlying t = some (.slice e)) (hinfo : (P.info? e).map (fun i => (i.zero, i.size, i.bytes)) = some (some z, 5, bytes)) (hzs : z.cells.size = 5)
    (v : Value) (n : Nat) (xs : List Value) (hs : a.eval s = v) (hown : w.ownsRow base e 5 v n xs) (u : Value) (m : Nat) (news : List Value) (hx : a.eval x = u) (hsrc : Src w u m news) (h1 : ∀ u ∈ news, u.oneCell' = true)
    (h63 : n + m ≤ maxLen) (hbytes : (n + m) * bytes ≤ 140737488355328) (hbase : base ≤ w.heap.size)
    (h : ∀ v' w', w'.ownsRow base e 5 v' (n + m) (xs ++ news) → w.grownBy w' v.ownBlock → K (a.put o.dst v') w') : if Region.wanted o (yielded ops a.tmps) = true then Oper.wp P o a w K Q else E := by
  have hw : Region.wanted o (yielded ops a.tmps) = true := by simp [Region.wanted, hgd]
  rw [if_pos hw]
  obtain ⟨i0, hi, hzz⟩ := Option.map_eq_some_iff.1 hinfo
  simp only [Prod.mk.injEq] at hzz
  obtain ⟨hz0, hz1, hz2⟩ := hzz
  rcases hsrc with ⟨c, rfl, rfl, rfl⟩ | ⟨ad, c, rfl, hl, hn⟩
  · have hr := run_appendN (P := P) w (ty := o.type) ht hi v n xs hown c
    unfold Oper.wp execOp
    simp only [ho, resolve, invoke, builtin, Sem.run_bind, Sem.run_pure, Result.andThen_ok, List.map_toArray, List.map_cons, List.map_nil, hs, hx, hr]
    exact h v w (by simpa using hown) ⟨rfl, rfl, rfl, Nat.le_refl _, fun _ _ _ => rfl⟩
  · obtain ⟨v', w', hr, q1, q2, _, _⟩ := run_append_own_at (P := P) w base t o.type e i0 z 5 bytes ht hi hz0 hz1 hz2 hzs (by omega) v n xs hown ad m c news hl hn h1 h63 hbytes hbase
    unfold Oper.wp execOp
    simp only [ho, resolve, invoke, builtin, Sem.run_bind, Sem.run_pure, Result.andThen_ok, List.map_toArray, List.map_cons, List.map_nil, hs, hx, hr]
    exact h v' w' q1 q2
end
theorem cells_one (ls : List El) : ∀ u ∈ ls.flatMap cel, u.oneCell' = true := by
  intro v hv
  obtain ⟨x, _, hv⟩ := List.mem_flatMap.1 hv
  simp [cel] at hv; rcases hv with rfl | rfl | rfl | rfl | rfl <;> rfl
theorem cells_len (ls : List El) : (ls.flatMap cel).length = ls.length * 5 := Go.Proofs.YtmgpaccgjafjeaaHS.flat_len cel 5 cel_len ls
theorem add_at (g o j : Nat) : (⟨g, o, none⟩ : Addr).add j = ⟨g, o + j, none⟩ := by unfold Addr.add; split <;> simp_all
section
variable {w : World} {B gl cap : Nat} {ls : List El} (h : w.ownsRow B 24 5 (.slice (some ⟨gl, 0, none⟩) ls.length cap) ls.length (ls.flatMap cel))
include h
theorem src_take (i c : Nat) (hi : i ≤ ls.length) : Src w (.slice (some ⟨gl, 0, none⟩) i c) i ((ls.take i).flatMap cel) := by
  refine Or.inr ⟨_, _, rfl, by rw [cells_len, List.length_take, Nat.min_eq_left hi], fun j y hy => ?_⟩
  have e0 : min i ls.length = i := by omega
  have hj : j < i * 5 := by
    have z := (List.getElem?_eq_some_iff.1 hy).1
    rw [cells_len, List.length_take, e0] at z
    exact z
  have hk : i * 5 ≤ ls.length * 5 := Nat.mul_le_mul_right _ hi
  have := h.cellAt j (by omega)
  have e : ls.flatMap cel = (ls.take i).flatMap cel ++ (ls.drop i).flatMap cel := by rw [← List.flatMap_append, List.take_append_drop]
  have el : ((ls.take i).flatMap cel).length = i * 5 := by rw [cells_len, List.length_take, Nat.min_eq_left hi]
  rw [e, List.getElem?_append_left (by omega), hy] at this
  rw [add_at]
  simpa using this
theorem src_drop (i c : Nat) (hi : i ≤ ls.length) : Src w (.slice (some ⟨gl, i * 5, none⟩) (ls.length - i) c) (ls.length - i) ((ls.drop i).flatMap cel) := by
  refine Or.inr ⟨_, _, rfl, by rw [cells_len, List.length_drop], fun j y hy => ?_⟩
  have hj : j < (ls.length - i) * 5 := by have := (List.getElem?_eq_some_iff.1 hy).1; rw [cells_len, List.length_drop] at this; exact this
  have hm : i * 5 + (ls.length - i) * 5 = ls.length * 5 := by rw [← Nat.add_mul]; congr 1; omega
  have := h.cellAt (i * 5 + j) (by omega)
  have e : ls.flatMap cel = (ls.take i).flatMap cel ++ (ls.drop i).flatMap cel := by rw [← List.flatMap_append, List.take_append_drop]
  have el : ((ls.take i).flatMap cel).length = i * 5 := by rw [cells_len, List.length_take, Nat.min_eq_left hi]
  rw [e, List.getElem?_append_right (by omega), el, show i * 5 + j - i * 5 = j by omega, hy] at this
  rw [add_at]
  simpa using this
end
theorem src_end (w : World) (gl c i : Nat) (ls : List El) (hi : ls.length ≤ i) : Src w (.slice (some ⟨gl, 0, none⟩) 0 c) 0 ((ls.drop i).flatMap cel) := by
  rw [List.drop_eq_nil_of_le hi]
  exact Or.inr ⟨_, _, rfl, by simp, fun j y hy => by simp at hy⟩
/-- A slice that is read: its elements. -/
theorem src_C {w : World} {A : Option Addr} {ls : List El} (h : Kd.C k24 w A ls.length ls) (c : Nat) : Src w (.slice A ls.length c) ls.length (ls.flatMap cel) := by
  cases A with
  | none =>
    have e : ls.length = 0 := by
      rcases Nat.eq_zero_or_pos ls.length with h0 | h0
      · exact h0
      · obtain ⟨ad, e, _⟩ := h.2.2 (by omega)
        exact absurd e (by simp)
    have e2 : ls = [] := List.eq_nil_of_length_eq_zero e
    subst e2
    exact Or.inl ⟨c, rfl, rfl, rfl⟩
  | some ad =>
    refine Or.inr ⟨ad, c, rfl, cells_len ls, fun j y hy => ?_⟩
    have hj : j < ls.length * 5 := by have := (List.getElem?_eq_some_iff.1 hy).1; rw [cells_len] at this; exact this
    have hn : 0 < ls.length := by
      rcases Nat.eq_zero_or_pos ls.length with h0 | h0
      · rw [h0] at hj; omega
      · exact h0
    obtain ⟨ad', e, hc⟩ := h.2.2 (by omega)
    cases e
    have z := Go.Proofs.YtmgpaccgjafjeaaHS.flat_get cel 5 cel_len (by decide) ls j hj
    have hd : j / 5 < ls.length := by omega
    obtain ⟨cs, hl, hK, hcell⟩ := hc (j / 5) ls[j / 5] (List.getElem?_eq_getElem hd)
    have e3 : ls[j / 5]! = ls[j / 5] := getElem!_pos ls _ hd
    rw [e3, hy] at z
    obtain rfl : cs = cel ls[j / 5] := k24_open hK
    have q := hcell (j % 5) y z.symm
    rw [show j / 5 * k24.sz + j % 5 = j from by show j / 5 * 5 + j % 5 = j; omega] at q
    exact q
end Go.Proofs.YtmgpaccgjafjeaaHVR
