/- The document's answer to the pool: one is claimed. -/
import Derived.Test.YtjpnebhhpogebaaHPool9
import Derived.Maps.AppendAt
import Derived.Laws.AppendOwnNone
namespace Go.Proofs.YtjpnebhhpogebaaHPool
open Go.RowKit Go.Proofs.YtjpnebhhpogebaaW.PrintWords Go.Proofs.YtjpnebhhpogebaaHW Go.Proofs.YtjpnebhhpogebaaHG
set_option linter.unusedVariables false
set_option linter.unusedSimpArgs false
/-- A slice's elements, where they lie. -/
def Src (w : World) (u : Value) (m : Nat) (news : List Value) : Prop := (u = .slice none 0 0 ∧ m = 0 ∧ news = []) ∨ ∃ ad c, u = .slice (some ad) m c ∧ news.length = m * 2 ∧ ∀ j y, news[j]? = some y → w.cell? (ad.add j) = some y
section
variable {P : Program} (w : World) {ops : Array Oper} {rest : List Oper} {o : Oper} {a : Act} {Q : Exit → Act → World → Prop}
theorem wp_appendC (hgd : o.guard = none) (s x : Operand) (t : TypeId) (ho : o.op = .call { callee := .builtin .append, args := #[s, x], argTypes := #[t, t] })
    (base : Nat) (e : TypeId) (z : Value) (bytes : Nat) (ht : P.underlying t = some (.slice e)) (hinfo : (P.info? e).map (fun i => (i.zero, i.size, i.bytes)) = some (some z, 2, bytes)) (hzs : z.cells.size = 2)
    (v : Value) (n : Nat) (xs : List Value) (hs : a.eval s = v) (hown : w.ownsRow base e 2 v n xs) (u : Value) (m : Nat) (news : List Value) (hx : a.eval x = u) (hsrc : Src w u m news) (h1 : ∀ u ∈ news, u.oneCell' = true)
    (h63 : n + m ≤ maxLen) (hbytes : (n + m) * bytes ≤ 140737488355328) (hbase : base ≤ w.heap.size)
    (h : ∀ v' w', w'.ownsRow base e 2 v' (n + m) (xs ++ news) → w.grownBy w' v.ownBlock → wpList P ops Q rest (a.put o.dst v') w') : wpList P ops Q (o :: rest) a w := by
  obtain ⟨i0, hi, hzz⟩ := Option.map_eq_some_iff.1 hinfo
  simp only [Prod.mk.injEq] at hzz
  obtain ⟨hz0, hz1, hz2⟩ := hzz
  rcases hsrc with ⟨rfl, rfl, rfl⟩ | ⟨ad, c, rfl, hl, hn⟩
  · refine wpList_append_own_none hgd s x t ho base e i0 2 ht hi v n xs hs hown hx ?_
    exact h v w (by simpa using hown) ⟨rfl, rfl, rfl, Nat.le_refl _, fun _ _ _ => rfl⟩
  · exact wpList_append_own_at w hgd s x t ho base e i0 z 2 bytes ht hi hz0 hz1 hz2 hzs (by omega) v n xs hs hown ad m c news hx hl hn h1 h63 hbytes hbase (fun v' w' q1 q2 _ _ => h v' w' q1 q2)
end
theorem cells_one (ls : List (Int × ByteArray)) : ∀ u ∈ leaseCells ls, u.oneCell' = true := by
  intro u hu
  unfold leaseCells at hu
  obtain ⟨p, _, hp⟩ := List.mem_flatMap.1 hu
  simp at hp
  rcases hp with rfl | rfl <;> rfl
theorem leaseCells_app (l1 l2 : List (Int × ByteArray)) : leaseCells (l1 ++ l2) = leaseCells l1 ++ leaseCells l2 := by simp [leaseCells]
theorem add_at (g o j : Nat) : (⟨g, o, none⟩ : Addr).add j = ⟨g, o + j, none⟩ := by unfold Addr.add; split <;> simp_all
theorem src_take {w : World} {B gl cap : Nat} {ls : List (Int × ByteArray)} (h : w.ownsRow B 62 2 (.slice (some ⟨gl, 0, none⟩) ls.length cap) ls.length (leaseCells ls)) (i c : Nat) (hi : i ≤ ls.length) : Src w (.slice (some ⟨gl, 0, none⟩) i c) i (leaseCells (ls.take i)) := by
  refine Or.inr ⟨_, _, rfl, by rw [leaseCells_len, List.length_take]; omega, fun j y hy => ?_⟩
  have hj : j < i * 2 := by have := (List.getElem?_eq_some_iff.1 hy).1; rw [leaseCells_len, List.length_take] at this; omega
  have := h.cellAt j (by omega)
  have e : leaseCells ls = leaseCells (ls.take i) ++ leaseCells (ls.drop i) := by rw [← leaseCells_app, List.take_append_drop]
  rw [e, List.getElem?_append_left (by rw [leaseCells_len, List.length_take]; omega), hy] at this
  rw [add_at]
  simpa using this
theorem src_drop {w : World} {B gl cap : Nat} {ls : List (Int × ByteArray)} (h : w.ownsRow B 62 2 (.slice (some ⟨gl, 0, none⟩) ls.length cap) ls.length (leaseCells ls)) (i c : Nat) (hi : i ≤ ls.length) : Src w (.slice (some ⟨gl, i * 2, none⟩) (ls.length - i) c) (ls.length - i) (leaseCells (ls.drop i)) := by
  refine Or.inr ⟨_, _, rfl, by rw [leaseCells_len, List.length_drop]; omega, fun j y hy => ?_⟩
  have hj : j < (ls.length - i) * 2 := by have := (List.getElem?_eq_some_iff.1 hy).1; rw [leaseCells_len, List.length_drop] at this; omega
  have := h.cellAt (i * 2 + j) (by omega)
  have e : leaseCells ls = leaseCells (ls.take i) ++ leaseCells (ls.drop i) := by rw [← leaseCells_app, List.take_append_drop]
  have el : (leaseCells (ls.take i)).length = i * 2 := by rw [leaseCells_len, List.length_take]; omega
  rw [e, List.getElem?_append_right (by omega), el, show i * 2 + j - i * 2 = j by omega, hy] at this
  rw [add_at]
  simpa using this
/-- Where a new address goes. -/
def InsAt (ls : List (Int × ByteArray)) (a : Int) (i : Nat) : Prop := i ≤ ls.length ∧ (∀ j, j < i → ∀ q, ls[j]? = some q → q.1 < a) ∧ ∀ q, ls[i]? = some q → ¬ q.1 < a
theorem src_end (w : World) (gl c i : Nat) (ls : List (Int × ByteArray)) (hi : ls.length ≤ i) : Src w (.slice (some ⟨gl, 0, none⟩) 0 c) 0 (leaseCells (ls.drop i)) := by
  have e : ls.drop i = [] := List.drop_eq_nil_of_le hi
  rw [e]
  exact Or.inr ⟨_, _, rfl, by simp [leaseCells], fun j y hy => by simp [leaseCells] at hy⟩
theorem KB_set {g k : Nat} {w w5 : World} (h : Below w.heap.size w w5) (v : Value) : KB g w (w5.setCell ⟨g, k, none⟩ v) := by
  have h0 := (Below.refl 0 w5).setCell (p := ⟨g, k, none⟩) (Nat.zero_le _) v
  exact ⟨h0.os.trans h.os, h0.tape.trans h.tape, h0.output.trans h.output, Nat.le_trans h.size h0.size, fun j hj hne => (set_other (w := w5) (p := ⟨g, k, none⟩) (v := v) (g := j) (fun e => hne e)).trans (h.block j hj)⟩
def RefClaimed (B g : Nat) (base n a : Int) (s : ByteArray) (ls : List (Int × ByteArray)) (w : World) (e : Ending) (w' : World) : Prop := e = .returned (.int .i64 0) ∧ ∃ i, InsAt ls a i ∧ RefAt B w' g base n (ls.take i ++ (a, s) :: ls.drop i) ∧ KB g w w'
theorem claimed_end {B g i cap3 : Nat} {base n a : Int} {s : ByteArray} {ls : List (Int × ByteArray)} {w w2 w5 : World} {v : Value} {ad3 : Option Addr} (hi : InsAt ls a i) (hB : B ≤ w.heap.size) (hb : Below w.heap.size w w2) (hb5 : Below w2.heap.size w2 w5) (zg : g < w2.heap.size)
    (h1 : w5.heap[g]? = some (.cells #[.int .u32 base, .int .i64 n, v] 50 (0, 0))) (own : w5.ownsRow w2.heap.size 62 2 (.slice ad3 (i + 1 + (ls.length - i)) cap3) (i + 1 + (ls.length - i)) (leaseCells (ls.take i) ++ [.int .u32 a, .string s] ++ leaseCells (ls.drop i))) :
    RefClaimed B g base n a s ls w (.returned (.int .i64 0)) (w5.setCell ⟨g, 2, none⟩ (.slice ad3 (i + 1 + (ls.length - i)) cap3)) := by
  have hne : (Value.slice ad3 (i + 1 + (ls.length - i)) cap3).ownBlock ≠ some g := fun e => by have := (own.lt g e).1; omega
  have el : (ls.take i ++ (a, s) :: ls.drop i).length = i + 1 + (ls.length - i) := by have := hi.1; simp only [List.length_append, List.length_take, List.length_cons, List.length_drop]; omega
  have ec : leaseCells (ls.take i ++ (a, s) :: ls.drop i) = leaseCells (ls.take i) ++ [.int .u32 a, .string s] ++ leaseCells (ls.drop i) := by simp [leaseCells]
  refine ⟨rfl, i, hi, ⟨_, (blk_set h1 2 _).trans rfl, ?_, hne⟩, KB_set (hb.trans (hb5.mono hb.size)) _⟩
  rw [el, ec]
  exact own_setCell (own_less own (Nat.le_trans hB hb.size)) (fun e => hne e.symm) _
set_option maxRecDepth 100000 in
set_option maxHeartbeats 2000000 in
theorem RefClaimYes (B g : Nat) (base n a : Int) (s : ByteArray) (M : Int → Option ByteArray) (c : Nat) (w : World) (h : RefAt B w g base n (leases base M n.toNat)) (hv : Valid base n M c) (a0 : 0 ≤ a) (a1 : a < 4294967296) (hh : hasB base n a = true) (hs : ¬ s.size = 0) (hs2 : s.size ≤ 32) (hM : (M a).isSome = false) (hB : B ≤ w.heap.size) :
    Calls Try.prog 18 #[.pointer (some ⟨g, 0, none⟩), .int .u32 a, .string s] w (RefClaimed B g base n a s (leases base M n.toNat) w) := by
  have hl := leases_le hv
  have HH := Aside0.mk (RefHas B g base n a _ w h hv.b1 hv.b2 hv.n1 hv.n2 a0 a1)
  have HR := Aside0.mk h
  have hix : atIx (leases base M n.toNat) a = -1 := by
    rcases atIx_look hv a with ⟨_, hi⟩ | ⟨s', j, hM', _, _⟩
    · exact hi
    · rw [hM'] at hM; exact absurd hM (by simp)
  rw [hh] at HH
  have t1 : ¬ (s.size : Int) < 1 := by omega
  have t2 : ¬ (32 : Int) < (s.size : Int) := by omega
  have t3 : (s.size : Int) ≤ 9223372036854775807 := by omega
  generalize leases base M n.toNat = ls at *
  have HIX := Aside0.mk hix
  have HL := Aside0.mk hl
  clear h hv hh hM hix
  go_enter Try.func18, Try.ntmps18
  go_wp2_with (first | (go_at_call 22; refine HH.out.mono ?_; rintro e w1 ⟨rfl, hd⟩; have HB1 := Aside0.mk (drawn_below hd); have HR1 := Aside0.mk (HR.out.below (drawn_below hd)); clear hd) | (go_at_call 27; refine (RefAtOf B g base n a _ _ HR1.out (by have := HL.out; omega)).mono ?_; rw [HIX.out]; rintro e w2 ⟨rfl, rfl⟩))
  have HZ := Aside0.mk (show w.heap.size ≤ w2.heap.size from HB1.out.size)
  obtain ⟨v, h1, h2, h3⟩ := HR1.out
  have H2 := Aside0.mk h2
  have H1 := Aside0.mk h1
  have H3 := Aside0.mk h3
  have ZG := Aside0.mk (blk_lt h1)
  have k2 := blk_cell h1 2
  have zg := blk_lt h1
  have fz := blk_frozen h1 2
  simp only [List.getElem?_toArray, List.getElem?_cons_zero, List.getElem?_cons_succ] at k2
  rcases h2.2 with ⟨rfl, hn⟩ | ⟨gl, cap, cur, rfl, _⟩
  · obtain rfl : ls = [] := by cases ls with | nil => rfl | cons q ls => simp at hn
    clear h1 h2 h3
    go_loop [7] (fun v7 => v7 = .int .i64 0) (fun _ => 0)
    case atStart => rfl
    case round =>
      obtain rfl := hrel
      go_wp2_with (first | (at_builtin; refine wp_appendC _ rfl (.const (.slice none 0 0)) (.tmp 53) 34 rfl w2.heap.size 62 (.agg #[.int .u32 0, .string ⟨#[]⟩]) 24 Try.underlying34 infoLease rfl (.slice none 0 0) 0 [] rfl (own_nil _ _ _ _) (.slice none 0 0) 0 (leaseCells (([] : List (Int × ByteArray)).take 0)) rfl (Or.inl ⟨rfl, rfl, rfl⟩) (cells_one _) (by unfold maxLen; omega) (by omega) (Nat.le_refl _) ?_; intro v1 w3 own1 gr1; go_must (have hb3 := (Below.refl w2.heap.size w2).grown gr1 (Nat.le_refl _) (fun j hj => by simp [Value.ownBlock] at hj); rw [Nat.zero_add, List.nil_append] at own1; have OWN1 := Aside0.mk own1; have HB3 := Aside0.mk hb3; have H13 := Aside0.mk (hw_below H1.out hb3); clear own1 gr1 hb3 k2 zg fz; have k2 := blk_cell H13.out 2; have zg := blk_lt H13.out; have fz := blk_frozen H13.out 2; simp only [List.getElem?_toArray, List.getElem?_cons_zero, List.getElem?_cons_succ] at k2)) | (at_builtin; refine print_append_cells (w0 := w2) w2.heap.size rfl (.tmp 55) (.tmp 59) 34 62 (.agg #[.int .u32 0, .string ⟨#[]⟩]) 2 24 rfl Try.underlying34 infoLease rfl (by decide) (by decide) v1 0 (leaseCells (([] : List (Int × ByteArray)).take 0)) [.int .u32 a, .string s] rfl rfl rfl (fun u hu => by simp at hu; rcases hu with rfl | rfl <;> rfl) OWN1.out HB3.out HB3.out.size (by omega) ?_; intro v2 w4 own2 hb4 gr2 hat; go_must (have OWN2 := Aside0.mk own2; have HB4 := Aside0.mk hb4; have H14 := Aside0.mk (hw_below H1.out hb4); have H24 := Aside0.mk (pw_own_below H2.out hb4); clear own2 gr2 hat hb4 k2 zg fz; have k2 := blk_cell H14.out 2; have zg := blk_lt H14.out; have fz := blk_frozen H14.out 2; simp only [List.getElem?_toArray, List.getElem?_cons_zero, List.getElem?_cons_succ] at k2)) | (at_builtin; refine wp_appendC _ rfl (.tmp 62) (.tmp 68) 34 rfl w2.heap.size 62 (.agg #[.int .u32 0, .string ⟨#[]⟩]) 24 Try.underlying34 infoLease rfl v2 (0 + 1) (leaseCells (([] : List (Int × ByteArray)).take 0) ++ [.int .u32 a, .string s]) rfl OWN2.out (.slice none 0 0) (([] : List (Int × ByteArray)).length - 0) (leaseCells (([] : List (Int × ByteArray)).drop 0)) rfl (Or.inl ⟨rfl, rfl, rfl⟩) (cells_one _) (by unfold maxLen; omega) (by omega) HB4.out.size ?_; intro v3 w5 own3 gr3; go_must (obtain ⟨ad3, cap3, rfl⟩ := own_slice own3; have hb5 := HB4.out.grown gr3 HB4.out.size (fun j hj => (OWN2.out.lt j hj).1); have OWN3 := Aside0.mk own3; have HB5 := Aside0.mk hb5; have H15 := Aside0.mk (hw_below H1.out hb5); clear own3 gr3 hb5 k2 zg fz; have k2 := blk_cell H15.out 2; have zg := blk_lt H15.out; have fz := blk_frozen H15.out 2; simp only [List.getElem?_toArray, List.getElem?_cons_zero, List.getElem?_cons_succ] at k2)))
      go_ret
      exact claimed_end (i := 0) (ls := []) ⟨by simp, by simp, by simp⟩ hB HB1.out HB5.out ZG.out H15.out OWN3.out
  · clear h1 h2 h3
    go_loop [7] (fun v7 => ∃ i : Nat, i ≤ ls.length ∧ v7 = .int .i64 (i : Int) ∧ Aside0 (∀ j, j < i → ∀ q, ls[j]? = some q → q.1 < a)) (fun v7 => ls.length - (intOf v7).toNat)
    case atStart => exact ⟨0, by omega, rfl, ⟨fun j hj => by omega⟩⟩
    case round =>
      obtain ⟨i, hi, rfl, HI⟩ := hrel
      by_cases hlt : i < ls.length
      · have hlt' : (i : Int) < (ls.length : Int) := by omega
        obtain ⟨p, hp⟩ : ∃ p, ls[i]? = some p := ⟨_, List.getElem?_eq_getElem hlt⟩
        obtain ⟨c1, c2⟩ := leaseCells_at ls i p hp
        have d1 := World.ownsRow.cellAt H2.out (i * 2) (by omega)
        rw [c1] at d1
        have HPi := Aside0.mk hp
        clear c1 c2 hp
        by_cases e : p.1 < a
        · have HE := Aside0.mk e
          go_wp2
          go_round
          case rel => exact ⟨i + 1, by omega, by go_num, ⟨fun j hj q hq => by
            by_cases ej : j = i
            · rw [ej, HPi.out] at hq; rw [← Option.some.inj hq]; exact HE.out
            · exact HI.out j (by omega) q hq⟩⟩
          case measure => simp [intOf]; omega
        · have HIn := Aside0.mk (show InsAt ls a i from ⟨hi, HI.out, fun q hq => by rw [HPi.out] at hq; rw [← Option.some.inj hq]; exact e⟩)
          go_wp2_with (first | (at_builtin; refine wp_appendC _ rfl (.const (.slice none 0 0)) (.tmp 53) 34 rfl w2.heap.size 62 (.agg #[.int .u32 0, .string ⟨#[]⟩]) 24 Try.underlying34 infoLease rfl (.slice none 0 0) 0 [] rfl (own_nil _ _ _ _) (.slice (some ⟨gl, 0, none⟩) i cap) i (leaseCells (ls.take i)) rfl (src_take H2.out i _ hi) (cells_one _) (by unfold maxLen; omega) (by omega) (Nat.le_refl _) ?_; intro v1 w3 own1 gr1; go_must (have hb3 := (Below.refl w2.heap.size w2).grown gr1 (Nat.le_refl _) (fun j hj => by simp [Value.ownBlock] at hj); rw [Nat.zero_add, List.nil_append] at own1; have OWN1 := Aside0.mk own1; have HB3 := Aside0.mk hb3; have H13 := Aside0.mk (hw_below H1.out hb3); clear own1 gr1 hb3 k2 zg fz; have k2 := blk_cell H13.out 2; have zg := blk_lt H13.out; have fz := blk_frozen H13.out 2; simp only [List.getElem?_toArray, List.getElem?_cons_zero, List.getElem?_cons_succ] at k2)) | (at_builtin; refine print_append_cells (w0 := w2) w2.heap.size rfl (.tmp 55) (.tmp 59) 34 62 (.agg #[.int .u32 0, .string ⟨#[]⟩]) 2 24 rfl Try.underlying34 infoLease rfl (by decide) (by decide) v1 i (leaseCells (ls.take i)) [.int .u32 a, .string s] rfl rfl rfl (fun u hu => by simp at hu; rcases hu with rfl | rfl <;> rfl) OWN1.out HB3.out HB3.out.size (by omega) ?_; intro v2 w4 own2 hb4 gr2 hat; go_must (have OWN2 := Aside0.mk own2; have HB4 := Aside0.mk hb4; have H14 := Aside0.mk (hw_below H1.out hb4); have H24 := Aside0.mk (pw_own_below H2.out hb4); clear own2 gr2 hat hb4 k2 zg fz; have k2 := blk_cell H14.out 2; have zg := blk_lt H14.out; have fz := blk_frozen H14.out 2; simp only [List.getElem?_toArray, List.getElem?_cons_zero, List.getElem?_cons_succ] at k2)) | (at_builtin; refine wp_appendC _ rfl (.tmp 62) (.tmp 68) 34 rfl w2.heap.size 62 (.agg #[.int .u32 0, .string ⟨#[]⟩]) 24 Try.underlying34 infoLease rfl v2 (i + 1) (leaseCells (ls.take i) ++ [.int .u32 a, .string s]) rfl OWN2.out (.slice (some ⟨gl, i * 2, none⟩) (ls.length - i) _) (ls.length - i) (leaseCells (ls.drop i)) rfl (src_drop H24.out i _ hi) (cells_one _) (by unfold maxLen; omega) (by omega) HB4.out.size ?_; intro v3 w5 own3 gr3; go_must (obtain ⟨ad3, cap3, rfl⟩ := own_slice own3; have hb5 := HB4.out.grown gr3 HB4.out.size (fun j hj => (OWN2.out.lt j hj).1); have OWN3 := Aside0.mk own3; have HB5 := Aside0.mk hb5; have H15 := Aside0.mk (hw_below H1.out hb5); clear own3 gr3 hb5 k2 zg fz; have k2 := blk_cell H15.out 2; have zg := blk_lt H15.out; have fz := blk_frozen H15.out 2; simp only [List.getElem?_toArray, List.getElem?_cons_zero, List.getElem?_cons_succ] at k2)))
          go_ret
          exact claimed_end HIn.out hB HB1.out HB5.out ZG.out H15.out OWN3.out
      · have hge : ¬ (i : Int) < (ls.length : Int) := by omega
        have HIn := Aside0.mk (show InsAt ls a i from ⟨hi, HI.out, fun q hq => by have := (List.getElem?_eq_some_iff.1 hq).1; omega⟩)
        by_cases hcap : i = cap
        · subst hcap
          go_wp2_with (first | (at_builtin; refine wp_appendC _ rfl (.const (.slice none 0 0)) (.tmp 53) 34 rfl w2.heap.size 62 (.agg #[.int .u32 0, .string ⟨#[]⟩]) 24 Try.underlying34 infoLease rfl (.slice none 0 0) 0 [] rfl (own_nil _ _ _ _) (.slice (some ⟨gl, 0, none⟩) i i) i (leaseCells (ls.take i)) rfl (src_take H2.out i _ hi) (cells_one _) (by unfold maxLen; omega) (by omega) (Nat.le_refl _) ?_; intro v1 w3 own1 gr1; go_must (have hb3 := (Below.refl w2.heap.size w2).grown gr1 (Nat.le_refl _) (fun j hj => by simp [Value.ownBlock] at hj); rw [Nat.zero_add, List.nil_append] at own1; have OWN1 := Aside0.mk own1; have HB3 := Aside0.mk hb3; have H13 := Aside0.mk (hw_below H1.out hb3); clear own1 gr1 hb3 k2 zg fz; have k2 := blk_cell H13.out 2; have zg := blk_lt H13.out; have fz := blk_frozen H13.out 2; simp only [List.getElem?_toArray, List.getElem?_cons_zero, List.getElem?_cons_succ] at k2)) | (at_builtin; refine print_append_cells (w0 := w2) w2.heap.size rfl (.tmp 55) (.tmp 59) 34 62 (.agg #[.int .u32 0, .string ⟨#[]⟩]) 2 24 rfl Try.underlying34 infoLease rfl (by decide) (by decide) v1 i (leaseCells (ls.take i)) [.int .u32 a, .string s] rfl rfl rfl (fun u hu => by simp at hu; rcases hu with rfl | rfl <;> rfl) OWN1.out HB3.out HB3.out.size (by omega) ?_; intro v2 w4 own2 hb4 gr2 hat; go_must (have OWN2 := Aside0.mk own2; have HB4 := Aside0.mk hb4; have H14 := Aside0.mk (hw_below H1.out hb4); have H24 := Aside0.mk (pw_own_below H2.out hb4); clear own2 gr2 hat hb4 k2 zg fz; have k2 := blk_cell H14.out 2; have zg := blk_lt H14.out; have fz := blk_frozen H14.out 2; simp only [List.getElem?_toArray, List.getElem?_cons_zero, List.getElem?_cons_succ] at k2)) | (at_builtin; refine wp_appendC _ rfl (.tmp 62) (.tmp 68) 34 rfl w2.heap.size 62 (.agg #[.int .u32 0, .string ⟨#[]⟩]) 24 Try.underlying34 infoLease rfl v2 (i + 1) (leaseCells (ls.take i) ++ [.int .u32 a, .string s]) rfl OWN2.out (.slice (some ⟨gl, 0, none⟩) 0 0) 0 (leaseCells (ls.drop i)) rfl (src_end _ gl _ i ls (by omega)) (cells_one _) (by unfold maxLen; omega) (by omega) HB4.out.size ?_; intro v3 w5 own3' gr3; go_must (have own3 : w5.ownsRow w2.heap.size 62 2 v3 (i + 1 + (ls.length - i)) (leaseCells (ls.take i) ++ [.int .u32 a, .string s] ++ leaseCells (ls.drop i)) := (by rw [show ls.length - i = 0 by omega]; exact own3'); clear own3'; obtain ⟨ad3, cap3, rfl⟩ := own_slice own3; have hb5 := HB4.out.grown gr3 HB4.out.size (fun j hj => (OWN2.out.lt j hj).1); have OWN3 := Aside0.mk own3; have HB5 := Aside0.mk hb5; have H15 := Aside0.mk (hw_below H1.out hb5); clear own3 gr3 hb5 k2 zg fz; have k2 := blk_cell H15.out 2; have zg := blk_lt H15.out; have fz := blk_frozen H15.out 2; simp only [List.getElem?_toArray, List.getElem?_cons_zero, List.getElem?_cons_succ] at k2)))
          go_ret
          have E := claimed_end HIn.out hB HB1.out HB5.out ZG.out H15.out OWN3.out
          have z : ls.length - i = 0 := by omega
          rw [z] at E
          exact E
        · have hcap' : ¬ cap = i := fun e => hcap e.symm
          go_wp2_with (first | (at_builtin; refine wp_appendC _ rfl (.const (.slice none 0 0)) (.tmp 53) 34 rfl w2.heap.size 62 (.agg #[.int .u32 0, .string ⟨#[]⟩]) 24 Try.underlying34 infoLease rfl (.slice none 0 0) 0 [] rfl (own_nil _ _ _ _) (.slice (some ⟨gl, 0, none⟩) i cap) i (leaseCells (ls.take i)) rfl (src_take H2.out i _ hi) (cells_one _) (by unfold maxLen; omega) (by omega) (Nat.le_refl _) ?_; intro v1 w3 own1 gr1; go_must (have hb3 := (Below.refl w2.heap.size w2).grown gr1 (Nat.le_refl _) (fun j hj => by simp [Value.ownBlock] at hj); rw [Nat.zero_add, List.nil_append] at own1; have OWN1 := Aside0.mk own1; have HB3 := Aside0.mk hb3; have H13 := Aside0.mk (hw_below H1.out hb3); clear own1 gr1 hb3 k2 zg fz; have k2 := blk_cell H13.out 2; have zg := blk_lt H13.out; have fz := blk_frozen H13.out 2; simp only [List.getElem?_toArray, List.getElem?_cons_zero, List.getElem?_cons_succ] at k2)) | (at_builtin; refine print_append_cells (w0 := w2) w2.heap.size rfl (.tmp 55) (.tmp 59) 34 62 (.agg #[.int .u32 0, .string ⟨#[]⟩]) 2 24 rfl Try.underlying34 infoLease rfl (by decide) (by decide) v1 i (leaseCells (ls.take i)) [.int .u32 a, .string s] rfl rfl rfl (fun u hu => by simp at hu; rcases hu with rfl | rfl <;> rfl) OWN1.out HB3.out HB3.out.size (by omega) ?_; intro v2 w4 own2 hb4 gr2 hat; go_must (have OWN2 := Aside0.mk own2; have HB4 := Aside0.mk hb4; have H14 := Aside0.mk (hw_below H1.out hb4); have H24 := Aside0.mk (pw_own_below H2.out hb4); clear own2 gr2 hat hb4 k2 zg fz; have k2 := blk_cell H14.out 2; have zg := blk_lt H14.out; have fz := blk_frozen H14.out 2; simp only [List.getElem?_toArray, List.getElem?_cons_zero, List.getElem?_cons_succ] at k2)) | (at_builtin; refine wp_appendC _ rfl (.tmp 62) (.tmp 68) 34 rfl w2.heap.size 62 (.agg #[.int .u32 0, .string ⟨#[]⟩]) 24 Try.underlying34 infoLease rfl v2 (i + 1) (leaseCells (ls.take i) ++ [.int .u32 a, .string s]) rfl OWN2.out (.slice (some ⟨gl, i * 2, none⟩) (ls.length - i) _) (ls.length - i) (leaseCells (ls.drop i)) rfl (src_drop H24.out i _ hi) (cells_one _) (by unfold maxLen; omega) (by omega) HB4.out.size ?_; intro v3 w5 own3 gr3; go_must (obtain ⟨ad3, cap3, rfl⟩ := own_slice own3; have hb5 := HB4.out.grown gr3 HB4.out.size (fun j hj => (OWN2.out.lt j hj).1); have OWN3 := Aside0.mk own3; have HB5 := Aside0.mk hb5; have H15 := Aside0.mk (hw_below H1.out hb5); clear own3 gr3 hb5 k2 zg fz; have k2 := blk_cell H15.out 2; have zg := blk_lt H15.out; have fz := blk_frozen H15.out 2; simp only [List.getElem?_toArray, List.getElem?_cons_zero, List.getElem?_cons_succ] at k2)))
          go_ret
          exact claimed_end HIn.out hB HB1.out HB5.out ZG.out H15.out OWN3.out
end Go.Proofs.YtjpnebhhpogebaaHPool
