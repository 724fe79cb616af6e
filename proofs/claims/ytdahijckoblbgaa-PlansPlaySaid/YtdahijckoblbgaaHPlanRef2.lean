/- The document's answer to plans: one is added, one goes. -/
import Derived.Test.YtdahijckoblbgaaHPlanRef
import Derived.Test.YtdahijckoblbgaaHRow
import Derived.Test.YtdahijckoblbgaaPG27x9
namespace Go.Proofs.YtdahijckoblbgaaHVP
open Go.RowKit Go.Maps Go.Sort Go.Shelf Go.Lib Go.Proofs.YtdahijckoblbgaaW.PrintWords Go.Proofs.YtdahijckoblbgaaHW Go.Proofs.YtdahijckoblbgaaHG Go.Proofs.Ytdahijckoblbgaa.PG27 Go.Proofs.YtdahijckoblbgaaHT
set_option linter.unusedVariables false
set_option linter.unusedSimpArgs false
theorem refCheck_ok (x : El) : halyardref27_Check.f x.f0 x.f1 = some (if okB x = true then 0 else 2) := by
  unfold halyardref27_Check.f okB
  by_cases a1 : (x.f0.size : Int) < 1
  · rw [if_pos a1, if_neg (by simp; omega)]
  · by_cases a2 : (x.f0.size : Int) > 32
    · rw [if_neg a1, if_pos a2, if_neg (by simp; omega)]
    · by_cases a3 : x.f1 < 1
      · rw [if_neg a1, if_neg a2, if_pos a3, if_neg (by simp; omega)]
      · by_cases a4 : x.f1 > 1099511627776
        · rw [if_neg a1, if_neg a2, if_neg a3, if_pos a4, if_neg (by simp; omega)]
        · rw [if_neg a1, if_neg a2, if_neg a3, if_neg a4, if_pos (by simp; omega)]
theorem row_end {r n3 cap3 : Nat} {ls : List El} {w w2 w5 : World} {ad3 : Option Addr} {v : Value} (hb : Below w.heap.size w w2) (hb5 : Below w2.heap.size w2 w5) (zr : r < w2.heap.size)
    (h1 : w5.heap[r]? = some (.cells #[v] 49 (0, 0))) (own : w5.ownsRow w2.heap.size 30 2 (.slice ad3 n3 cap3) n3 (ls.flatMap cel)) (hn : ls.length = n3) :
    RefB (w5.setCell ⟨r, 0, none⟩ (.slice ad3 n3 cap3)) r ls ∧ KB r w (w5.setCell ⟨r, 0, none⟩ (.slice ad3 n3 cap3)) := by
  have hne : (Value.slice ad3 n3 cap3).ownBlock ≠ some r := fun e => by have := (own.lt r e).1; omega
  refine ⟨⟨_, (blk_set h1 0 _).trans rfl, ?_, hne⟩, KB_set (hb.trans (hb5.mono hb.size)) _⟩
  rw [hn]
  exact own_setCell (own_less own (Nat.zero_le _)) (fun e => hne e.symm) _

theorem below_w {w : World} (x : El) : Below w.heap.size w (w.alloc (Obj.cells #[Value.string x.f0, Value.int IntKind.i64 x.f1] 30)) := (Below.refl _ w).alloc (Nat.le_refl _) _

set_option maxRecDepth 100000 in
set_option maxHeartbeats 2000000 in
theorem RefAddArg (r : Nat) (ls : List El) (x : El) (w : World) (h : RefB w r ls) (hv : Up nm ls) (h32 : ls.length ≤ 32) (hc : okB x = false) :
    Calls Try.prog 23 #[.pointer (some ⟨r, 0, none⟩), .agg #[.string x.f0, .int .i64 x.f1]] w fun e w' => e = .returned (.int .i64 2) ∧ Below w.heap.size w w' := by
  have HR := Aside0.mk h
  have HB := Aside0.mk (Below.refl w.heap.size w)
  have huE := Try.underlying30
  have HL := Aside0.mk h32
  have HV := Aside0.mk hv
  have HC := Aside0.mk (refCheck_ok x)
  rw [hc] at HC
  simp only [Bool.false_eq_true, if_false] at HC
  clear h hv h32 hc
  go_enter Try.func23, Try.ntmps23
  go_wp2_with (first
    | (go_at_call 22; go_must (refine (halyardref27_Check.calls _ _ 2 _ HC.out).mono ?_); go_must (rintro e w1 ⟨rfl, hb1⟩; replace HR := Aside0.mk (HR.out.below (below_step (below_w x) hb1)); have HX := Aside0.mk (elAt_call (elAt_new w x) hb1); replace HB := Aside0.mk (below_step (below_w x) hb1); have x0 := HX.out.cell 0; have x1 := HX.out.cell 1; simp only [cel, List.getElem?_cons_zero, List.getElem?_cons_succ] at x0 x1; have zz := HB.out.size); clear hb1))
  first | go_ret | go_ret2
  exact ⟨rfl, HB.out⟩

set_option maxRecDepth 100000 in
set_option maxHeartbeats 2000000 in
theorem RefAddHave (r : Nat) (ls : List El) (x : El) (w : World) (h : RefB w r ls) (hv : Up nm ls) (h32 : ls.length ≤ 32) (hc : okB x = true) (y : El) (hg : get nm ls x.f0 = some y) :
    Calls Try.prog 23 #[.pointer (some ⟨r, 0, none⟩), .agg #[.string x.f0, .int .i64 x.f1]] w fun e w' => e = .returned (.int .i64 9) ∧ Below w.heap.size w w' := by
  have HR := Aside0.mk h
  have HB := Aside0.mk (Below.refl w.heap.size w)
  have huE := Try.underlying30
  have HL := Aside0.mk h32
  have HV := Aside0.mk hv
  have HC := Aside0.mk (refCheck_ok x)
  rw [hc] at HC
  simp only [if_true] at HC
  obtain ⟨i, hi⟩ : ∃ i, ix nm ls x.f0 = i := ⟨_, rfl⟩
  have HG := Aside0.mk hg
  have HI := Aside0.mk hi
  clear h hv h32 hc hg hi
  go_enter Try.func23, Try.ntmps23
  go_wp2_with (first
    | (go_at_call 22; go_must (refine (halyardref27_Check.calls _ _ 0 _ HC.out).mono ?_); go_must (rintro e w1 ⟨rfl, hb1⟩; replace HR := Aside0.mk (HR.out.below (below_step (below_w x) hb1)); have HX := Aside0.mk (elAt_call (elAt_new w x) hb1); replace HB := Aside0.mk (below_step (below_w x) hb1); have x0 := HX.out.cell 0; have x1 := HX.out.cell 1; simp only [cel, List.getElem?_cons_zero, List.getElem?_cons_succ] at x0 x1; have zz := HB.out.size); clear hb1)
    | (go_at_call 48; go_must (refine (At_some HR.out HV.out (by have := HL.out; omega) HG.out HI.out).mono ?_); go_must (rintro e W0 ⟨rfl, hb1⟩; replace HR := Aside0.mk (HR.out.below hb1); replace HX := Aside0.mk (elAt_call HX.out hb1); replace HB := Aside0.mk (below_step HB.out hb1); clear x0 x1; have x0 := HX.out.cell 0; have x1 := HX.out.cell 1; simp only [cel, List.getElem?_cons_zero, List.getElem?_cons_succ] at x0 x1; have zz := HB.out.size; skip); clear hb1))
  first | go_ret | go_ret2
  exact ⟨rfl, HB.out⟩

set_option maxRecDepth 100000 in
set_option maxHeartbeats 2000000 in
theorem RefAddFull (r : Nat) (ls : List El) (x : El) (w : World) (h : RefB w r ls) (hv : Up nm ls) (h32 : ls.length ≤ 32) (hc : okB x = true) (hg : get nm ls x.f0 = none) (hl : 32 ≤ ls.length) :
    Calls Try.prog 23 #[.pointer (some ⟨r, 0, none⟩), .agg #[.string x.f0, .int .i64 x.f1]] w fun e w' => e = .returned (.int .i64 4) ∧ Below w.heap.size w w' := by
  have HR := Aside0.mk h
  have HB := Aside0.mk (Below.refl w.heap.size w)
  have huE := Try.underlying30
  have HL := Aside0.mk h32
  have HV := Aside0.mk hv
  have HC := Aside0.mk (refCheck_ok x)
  rw [hc] at HC
  simp only [if_true] at HC
  obtain ⟨i, hi⟩ : ∃ i, ix nm ls x.f0 = i := ⟨_, rfl⟩
  have HG := Aside0.mk hg
  have HI := Aside0.mk hi
  have hl' : (32 : Int) ≤ (ls.length : Int) := by omega
  clear h hv h32 hc hg hi
  go_enter Try.func23, Try.ntmps23
  go_wp2_with (first
    | (go_at_call 22; go_must (refine (halyardref27_Check.calls _ _ 0 _ HC.out).mono ?_); go_must (rintro e w1 ⟨rfl, hb1⟩; replace HR := Aside0.mk (HR.out.below (below_step (below_w x) hb1)); have HX := Aside0.mk (elAt_call (elAt_new w x) hb1); replace HB := Aside0.mk (below_step (below_w x) hb1); have x0 := HX.out.cell 0; have x1 := HX.out.cell 1; simp only [cel, List.getElem?_cons_zero, List.getElem?_cons_succ] at x0 x1; have zz := HB.out.size); clear hb1)
    | (go_at_call 48; go_must (refine (At_none HR.out HV.out (by have := HL.out; omega) HG.out HI.out).mono ?_); go_must (rintro e W0 ⟨rfl, hb1⟩; replace HR := Aside0.mk (HR.out.below hb1); replace HX := Aside0.mk (elAt_call HX.out hb1); replace HB := Aside0.mk (below_step HB.out hb1); clear x0 x1; have x0 := HX.out.cell 0; have x1 := HX.out.cell 1; simp only [cel, List.getElem?_cons_zero, List.getElem?_cons_succ] at x0 x1; have zz := HB.out.size; obtain ⟨v_, h1, h2, h3⟩ := HR.out; obtain ⟨A_, cap_, hv_, hcap_, hC_, _⟩ := C_of_own h2; subst hv_; have k2 := blk_cell h1 0; have zg := blk_lt h1; have fz := blk_frozen h1 0; simp only [List.getElem?_toArray, List.getElem?_cons_zero] at k2); clear hb1))
  first | go_ret | go_ret2
  exact ⟨rfl, HB.out⟩

-- RefV: the document's book with its slice named
def RefV (w : World) (r : Nat) (ls : List El) (v : Value) : Prop := w.heap[r]? = some (.cells #[v] 49 (0, 0)) ∧ w.ownsRow 0 30 2 v ls.length (ls.flatMap cel) ∧ v.ownBlock ≠ some r
theorem RefV.below {w w1 : World} {r : Nat} {ls : List El} {v : Value} (h : RefV w r ls v) (hb : Below w.heap.size w w1) : RefV w1 r ls v := ⟨hw_below h.1 hb, pw_own_below h.2.1 hb, h.2.2⟩
theorem RefV.b {w : World} {r : Nat} {ls : List El} {v : Value} (h : RefV w r ls v) : RefB w r ls := ⟨v, h⟩
theorem RefB.form {w : World} {r : Nat} {ls : List El} (h : RefB w r ls) : (RefV w r ls (.slice none 0 0) ∧ ls = []) ∨ ∃ gl cap, RefV w r ls (.slice (some ⟨gl, 0, none⟩) ls.length cap) ∧ ls.length ≤ cap := by
  obtain ⟨v, h1, h2, h3⟩ := h
  rcases h2.2 with ⟨rfl, hn⟩ | ⟨gl, cap, cur, rfl, _, _, hc, _⟩
  · exact Or.inl ⟨⟨h1, h2, h3⟩, List.eq_nil_of_length_eq_zero hn⟩
  · exact Or.inr ⟨gl, cap, ⟨h1, h2, h3⟩, hc⟩

theorem elAt_below {w w1 : World} {B : Nat} {x : El} (h : ElAt w B x) (hb : Below w.heap.size w w1) : ElAt w1 B x := hw_below h hb
theorem drop_z {ls : List El} {i : Nat} (h : ls.length ≤ i) : ls.drop i = [] := List.drop_eq_nil_of_le h

set_option maxRecDepth 100000 in
set_option maxHeartbeats 4000000 in
theorem RefAddMid (r : Nat) (ls : List El) (x : El) (w : World) (gl cap : Nat) (hcap : ls.length ≤ cap) (hne : ¬ cap = ix nm ls x.f0) (h : RefV w r ls (.slice (some ⟨gl, 0, none⟩) ls.length cap)) (hv : Up nm ls) (h32 : ls.length < 32) (hc : okB x = true) (hg : get nm ls x.f0 = none) :
    Calls Try.prog 23 #[.pointer (some ⟨r, 0, none⟩), .agg #[.string x.f0, .int .i64 x.f1]] w (fun e w' => e = .returned (.int .i64 0) ∧ RefB w' r (ins nm ls x) ∧ KB r w w') := by
  have HR := Aside0.mk h
  have HB := Aside0.mk (Below.refl w.heap.size w)
  have huE := Try.underlying30
  have HL := Aside0.mk h32
  have HV := Aside0.mk hv
  have HC := Aside0.mk (refCheck_ok x)
  rw [hc] at HC
  simp only [if_true] at HC
  obtain ⟨i, hi⟩ : ∃ i, ix nm ls x.f0 = i := ⟨_, rfl⟩
  have hil : i ≤ ls.length := by rw [← hi]; exact ix_le ls x.f0
  have HG := Aside0.mk hg
  have HI := Aside0.mk hi
  have hl' : ¬ (32 : Int) ≤ (ls.length : Int) := by omega
  rw [hi] at hne
  clear h hv h32 hc hg hi
  go_enter Try.func23, Try.ntmps23
  go_wp2_with (first
    | (go_at_call 22; go_must (refine (halyardref27_Check.calls _ _ 0 _ HC.out).mono ?_); go_must (rintro e w1 ⟨rfl, hb1⟩; replace HR := Aside0.mk (HR.out.below (below_step (below_w x) hb1)); have HX := Aside0.mk (elAt_call (elAt_new w x) hb1); replace HB := Aside0.mk (below_step (below_w x) hb1); have x0 := HX.out.cell 0; have x1 := HX.out.cell 1; simp only [cel, List.getElem?_cons_zero, List.getElem?_cons_succ] at x0 x1; have zz := HB.out.size); clear hb1)
    | (go_at_call 48; go_must (refine (At_none HR.out.b HV.out (by have := HL.out; omega) HG.out HI.out).mono ?_); go_must (rintro e W0 ⟨rfl, hb1⟩; replace HR := Aside0.mk (HR.out.below hb1); replace HX := Aside0.mk (elAt_call HX.out hb1); replace HB := Aside0.mk (below_step HB.out hb1); clear x0 x1; have x0 := HX.out.cell 0; have x1 := HX.out.cell 1; simp only [cel, List.getElem?_cons_zero, List.getElem?_cons_succ] at x0 x1; have zz := HB.out.size; have H1 := Aside0.mk HR.out.1; have H2 := Aside0.mk HR.out.2.1; have ZR := Aside0.mk (blk_lt HR.out.1); have k2 := blk_cell HR.out.1 0; have zg := blk_lt HR.out.1; have fz := blk_frozen HR.out.1 0; simp only [List.getElem?_toArray, List.getElem?_cons_zero] at k2); clear hb1)
    | (at_builtin; refine wp_appendC _ rfl _ _ 22 rfl W0.heap.size 30 (.agg #[.string ⟨#[]⟩, .int .i64 0]) 24 Try.underlying22 infoEl rfl (.slice none 0 0) 0 [] rfl (own_nil _ _ _ _) (.slice (some ⟨gl, 0, none⟩) i cap) i ((ls.take i).flatMap cel) rfl (src_take H2.out i _ hil) (cells_one _) (by unfold maxLen; omega) (by omega) (Nat.le_refl _) ?_; intro v1 w3 own1 gr1; go_must (have hb3 := (Below.refl W0.heap.size W0).grown gr1 (Nat.le_refl _) (fun j hj => by simp [Value.ownBlock] at hj); rw [Nat.zero_add, List.nil_append] at own1; have OWN1 := Aside0.mk own1; have HB3 := Aside0.mk hb3; have H13 := Aside0.mk (hw_below H1.out hb3); replace HX := Aside0.mk (elAt_below HX.out hb3); clear x0 x1; have x0 := HX.out.cell 0; have x1 := HX.out.cell 1; simp only [cel, List.getElem?_cons_zero, List.getElem?_cons_succ] at x0 x1; clear own1 gr1 hb3 k2 zg fz; have k2 := blk_cell H13.out 0; have zg := blk_lt H13.out; have fz := blk_frozen H13.out 0; simp only [List.getElem?_toArray, List.getElem?_cons_zero, List.getElem?_cons_succ] at k2))
    | (at_builtin; refine print_append_cells (w0 := W0) W0.heap.size rfl _ _ 22 30 (.agg #[.string ⟨#[]⟩, .int .i64 0]) 2 24 rfl Try.underlying22 infoEl rfl (by decide) (by decide) v1 i ((ls.take i).flatMap cel) (cel x) rfl rfl rfl (fun u hu => by simp [cel] at hu; rcases hu with rfl | rfl <;> rfl) OWN1.out HB3.out HB3.out.size (by omega) ?_; intro v2 w4 own2 hb4 gr2 hat; go_must (have OWN2 := Aside0.mk own2; have HB4 := Aside0.mk hb4; have H14 := Aside0.mk (hw_below H1.out hb4); have H24 := Aside0.mk (pw_own_below H2.out hb4); clear own2 gr2 hat hb4 k2 zg fz; have k2 := blk_cell H14.out 0; have zg := blk_lt H14.out; have fz := blk_frozen H14.out 0; simp only [List.getElem?_toArray, List.getElem?_cons_zero, List.getElem?_cons_succ] at k2))
    | (at_builtin; refine wp_appendC _ rfl _ _ 22 rfl W0.heap.size 30 (.agg #[.string ⟨#[]⟩, .int .i64 0]) 24 Try.underlying22 infoEl rfl v2 (i + 1) ((ls.take i).flatMap cel ++ cel x) rfl OWN2.out (.slice (some ⟨gl, i * 2, none⟩) (ls.length - i) (cap - i)) (ls.length - i) ((ls.drop i).flatMap cel) rfl (src_drop H24.out i _ hil) (cells_one _) (by unfold maxLen; omega) (by omega) HB4.out.size ?_; intro v3 w5 own3 gr3; go_must (obtain ⟨ad3, cap3, rfl⟩ := own_slice own3; have hb5 := HB4.out.grown gr3 HB4.out.size (fun j hj => (OWN2.out.lt j hj).1); have OWN3 := Aside0.mk own3; have HB5 := Aside0.mk hb5; have H15 := Aside0.mk (hw_below H1.out hb5); clear own3 gr3 hb5 k2 zg fz; have k2 := blk_cell H15.out 0; have zg := blk_lt H15.out; have fz := blk_frozen H15.out 0; simp only [List.getElem?_toArray, List.getElem?_cons_zero, List.getElem?_cons_succ] at k2)))
  go_ret
  have E := row_end (ls := ins nm ls x) (n3 := i + 1 + (ls.length - i)) HB.out HB5.out ZR.out H15.out (by
    have q := OWN3.out
    have e : (ins nm ls x).flatMap cel = (ls.take i).flatMap cel ++ cel x ++ (ls.drop i).flatMap cel := by
      unfold Go.Proofs.YtdahijckoblbgaaHT.ins
      rw [show ix nm ls (nm x) = i from HI.out]
      simp
    rw [e]; exact q) ((ins_len _ _).trans (by first | omega | rfl))
  exact ⟨rfl, E.1, E.2⟩

set_option maxRecDepth 100000 in
set_option maxHeartbeats 4000000 in
theorem RefAddEnd (r : Nat) (ls : List El) (x : El) (w : World) (gl : Nat) (hi0 : ix nm ls x.f0 = ls.length) (h : RefV w r ls (.slice (some ⟨gl, 0, none⟩) ls.length ls.length)) (hv : Up nm ls) (h32 : ls.length < 32) (hc : okB x = true) (hg : get nm ls x.f0 = none) :
    Calls Try.prog 23 #[.pointer (some ⟨r, 0, none⟩), .agg #[.string x.f0, .int .i64 x.f1]] w (fun e w' => e = .returned (.int .i64 0) ∧ RefB w' r (ins nm ls x) ∧ KB r w w') := by
  have HR := Aside0.mk h
  have HB := Aside0.mk (Below.refl w.heap.size w)
  have huE := Try.underlying30
  have HL := Aside0.mk h32
  have HV := Aside0.mk hv
  have HC := Aside0.mk (refCheck_ok x)
  rw [hc] at HC
  simp only [if_true] at HC
  have hi := hi0
  have HG := Aside0.mk hg
  have HI := Aside0.mk hi
  have hl' : ¬ (32 : Int) ≤ (ls.length : Int) := by omega
  clear h hv h32 hc hg hi hi0
  go_enter Try.func23, Try.ntmps23
  go_wp2_with (first
    | (go_at_call 22; go_must (refine (halyardref27_Check.calls _ _ 0 _ HC.out).mono ?_); go_must (rintro e w1 ⟨rfl, hb1⟩; replace HR := Aside0.mk (HR.out.below (below_step (below_w x) hb1)); have HX := Aside0.mk (elAt_call (elAt_new w x) hb1); replace HB := Aside0.mk (below_step (below_w x) hb1); have x0 := HX.out.cell 0; have x1 := HX.out.cell 1; simp only [cel, List.getElem?_cons_zero, List.getElem?_cons_succ] at x0 x1; have zz := HB.out.size); clear hb1)
    | (go_at_call 48; go_must (refine (At_none HR.out.b HV.out (by have := HL.out; omega) HG.out HI.out).mono ?_); go_must (rintro e W0 ⟨rfl, hb1⟩; replace HR := Aside0.mk (HR.out.below hb1); replace HX := Aside0.mk (elAt_call HX.out hb1); replace HB := Aside0.mk (below_step HB.out hb1); clear x0 x1; have x0 := HX.out.cell 0; have x1 := HX.out.cell 1; simp only [cel, List.getElem?_cons_zero, List.getElem?_cons_succ] at x0 x1; have zz := HB.out.size; have H1 := Aside0.mk HR.out.1; have H2 := Aside0.mk HR.out.2.1; have ZR := Aside0.mk (blk_lt HR.out.1); have k2 := blk_cell HR.out.1 0; have zg := blk_lt HR.out.1; have fz := blk_frozen HR.out.1 0; simp only [List.getElem?_toArray, List.getElem?_cons_zero] at k2); clear hb1)
    | (at_builtin; refine wp_appendC _ rfl _ _ 22 rfl W0.heap.size 30 (.agg #[.string ⟨#[]⟩, .int .i64 0]) 24 Try.underlying22 infoEl rfl (.slice none 0 0) 0 [] rfl (own_nil _ _ _ _) (.slice (some ⟨gl, 0, none⟩) ls.length ls.length) ls.length ((ls.take ls.length).flatMap cel) rfl (src_take H2.out ls.length _ (Nat.le_refl _)) (cells_one _) (by unfold maxLen; omega) (by omega) (Nat.le_refl _) ?_; intro v1 w3 own1 gr1; go_must (have hb3 := (Below.refl W0.heap.size W0).grown gr1 (Nat.le_refl _) (fun j hj => by simp [Value.ownBlock] at hj); rw [Nat.zero_add, List.nil_append] at own1; have OWN1 := Aside0.mk own1; have HB3 := Aside0.mk hb3; have H13 := Aside0.mk (hw_below H1.out hb3); replace HX := Aside0.mk (elAt_below HX.out hb3); clear x0 x1; have x0 := HX.out.cell 0; have x1 := HX.out.cell 1; simp only [cel, List.getElem?_cons_zero, List.getElem?_cons_succ] at x0 x1; clear own1 gr1 hb3 k2 zg fz; have k2 := blk_cell H13.out 0; have zg := blk_lt H13.out; have fz := blk_frozen H13.out 0; simp only [List.getElem?_toArray, List.getElem?_cons_zero, List.getElem?_cons_succ] at k2))
    | (at_builtin; refine print_append_cells (w0 := W0) W0.heap.size rfl _ _ 22 30 (.agg #[.string ⟨#[]⟩, .int .i64 0]) 2 24 rfl Try.underlying22 infoEl rfl (by decide) (by decide) v1 ls.length ((ls.take ls.length).flatMap cel) (cel x) rfl rfl rfl (fun u hu => by simp [cel] at hu; rcases hu with rfl | rfl <;> rfl) OWN1.out HB3.out HB3.out.size (by omega) ?_; intro v2 w4 own2 hb4 gr2 hat; go_must (have OWN2 := Aside0.mk own2; have HB4 := Aside0.mk hb4; have H14 := Aside0.mk (hw_below H1.out hb4); have H24 := Aside0.mk (pw_own_below H2.out hb4); clear own2 gr2 hat hb4 k2 zg fz; have k2 := blk_cell H14.out 0; have zg := blk_lt H14.out; have fz := blk_frozen H14.out 0; simp only [List.getElem?_toArray, List.getElem?_cons_zero, List.getElem?_cons_succ] at k2))
    | (at_builtin; refine wp_appendC _ rfl _ _ 22 rfl W0.heap.size 30 (.agg #[.string ⟨#[]⟩, .int .i64 0]) 24 Try.underlying22 infoEl rfl v2 (ls.length + 1) ((ls.take ls.length).flatMap cel ++ cel x) rfl OWN2.out (.slice (some ⟨gl, 0, none⟩) 0 0) (0) ((ls.drop ls.length).flatMap cel) rfl (src_end _ gl 0 ls.length ls (Nat.le_refl _)) (cells_one _) (by unfold maxLen; omega) (by omega) HB4.out.size ?_; intro v3 w5 own3 gr3; go_must (obtain ⟨ad3, cap3, rfl⟩ := own_slice own3; have hb5 := HB4.out.grown gr3 HB4.out.size (fun j hj => (OWN2.out.lt j hj).1); have OWN3 := Aside0.mk own3; have HB5 := Aside0.mk hb5; have H15 := Aside0.mk (hw_below H1.out hb5); clear own3 gr3 hb5 k2 zg fz; have k2 := blk_cell H15.out 0; have zg := blk_lt H15.out; have fz := blk_frozen H15.out 0; simp only [List.getElem?_toArray, List.getElem?_cons_zero, List.getElem?_cons_succ] at k2)))
  go_ret
  have E := row_end (ls := ins nm ls x) (n3 := ls.length + 1 + 0) HB.out HB5.out ZR.out H15.out (by
    have q := OWN3.out
    have e : (ins nm ls x).flatMap cel = (ls.take ls.length).flatMap cel ++ cel x ++ (ls.drop ls.length).flatMap cel := by
      unfold Go.Proofs.YtdahijckoblbgaaHT.ins
      rw [show ix nm ls (nm x) = ls.length from HI.out]
      simp
    rw [e]; exact q) ((ins_len _ _).trans (by first | omega | rfl))
  exact ⟨rfl, E.1, E.2⟩

set_option maxRecDepth 100000 in
set_option maxHeartbeats 4000000 in
theorem RefAddNil (r : Nat) (x : El) (w : World) (h : RefV w r ([] : List El) (.slice none 0 0)) (hv : Up nm ([] : List El)) (h32 : ([] : List El).length < 32) (hc : okB x = true) (hg : get nm ([] : List El) x.f0 = none) :
    Calls Try.prog 23 #[.pointer (some ⟨r, 0, none⟩), .agg #[.string x.f0, .int .i64 x.f1]] w (fun e w' => e = .returned (.int .i64 0) ∧ RefB w' r (ins nm ([] : List El) x) ∧ KB r w w') := by
  have HR := Aside0.mk h
  have HB := Aside0.mk (Below.refl w.heap.size w)
  have huE := Try.underlying30
  have HL := Aside0.mk h32
  have HV := Aside0.mk hv
  have HC := Aside0.mk (refCheck_ok x)
  rw [hc] at HC
  simp only [if_true] at HC
  have hi : ix nm ([] : List El) x.f0 = 0 := rfl
  have HG := Aside0.mk hg
  have HI := Aside0.mk hi
  have hl' : ¬ (32 : Int) ≤ (([] : List El).length : Int) := by omega
  clear h hv h32 hc hg hi
  go_enter Try.func23, Try.ntmps23
  go_wp2_with (first
    | (go_at_call 22; go_must (refine (halyardref27_Check.calls _ _ 0 _ HC.out).mono ?_); go_must (rintro e w1 ⟨rfl, hb1⟩; replace HR := Aside0.mk (HR.out.below (below_step (below_w x) hb1)); have HX := Aside0.mk (elAt_call (elAt_new w x) hb1); replace HB := Aside0.mk (below_step (below_w x) hb1); have x0 := HX.out.cell 0; have x1 := HX.out.cell 1; simp only [cel, List.getElem?_cons_zero, List.getElem?_cons_succ] at x0 x1; have zz := HB.out.size); clear hb1)
    | (go_at_call 48; go_must (refine (At_none HR.out.b HV.out (by have := HL.out; omega) HG.out HI.out).mono ?_); go_must (rintro e W0 ⟨rfl, hb1⟩; replace HR := Aside0.mk (HR.out.below hb1); replace HX := Aside0.mk (elAt_call HX.out hb1); replace HB := Aside0.mk (below_step HB.out hb1); clear x0 x1; have x0 := HX.out.cell 0; have x1 := HX.out.cell 1; simp only [cel, List.getElem?_cons_zero, List.getElem?_cons_succ] at x0 x1; have zz := HB.out.size; have H1 := Aside0.mk HR.out.1; have H2 := Aside0.mk HR.out.2.1; have ZR := Aside0.mk (blk_lt HR.out.1); have k2 := blk_cell HR.out.1 0; have zg := blk_lt HR.out.1; have fz := blk_frozen HR.out.1 0; simp only [List.getElem?_toArray, List.getElem?_cons_zero] at k2); clear hb1)
    | (at_builtin; refine wp_appendC _ rfl _ _ 22 rfl W0.heap.size 30 (.agg #[.string ⟨#[]⟩, .int .i64 0]) 24 Try.underlying22 infoEl rfl (.slice none 0 0) 0 [] rfl (own_nil _ _ _ _) (.slice none 0 0) 0 ((([] : List El).take 0).flatMap cel) rfl (Or.inl ⟨0, rfl, rfl, rfl⟩) (cells_one _) (by unfold maxLen; omega) (by omega) (Nat.le_refl _) ?_; intro v1 w3 own1 gr1; go_must (have hb3 := (Below.refl W0.heap.size W0).grown gr1 (Nat.le_refl _) (fun j hj => by simp [Value.ownBlock] at hj); rw [Nat.zero_add, List.nil_append] at own1; have OWN1 := Aside0.mk own1; have HB3 := Aside0.mk hb3; have H13 := Aside0.mk (hw_below H1.out hb3); replace HX := Aside0.mk (elAt_below HX.out hb3); clear x0 x1; have x0 := HX.out.cell 0; have x1 := HX.out.cell 1; simp only [cel, List.getElem?_cons_zero, List.getElem?_cons_succ] at x0 x1; clear own1 gr1 hb3 k2 zg fz; have k2 := blk_cell H13.out 0; have zg := blk_lt H13.out; have fz := blk_frozen H13.out 0; simp only [List.getElem?_toArray, List.getElem?_cons_zero, List.getElem?_cons_succ] at k2))
    | (at_builtin; refine print_append_cells (w0 := W0) W0.heap.size rfl _ _ 22 30 (.agg #[.string ⟨#[]⟩, .int .i64 0]) 2 24 rfl Try.underlying22 infoEl rfl (by decide) (by decide) v1 0 ((([] : List El).take 0).flatMap cel) (cel x) rfl rfl rfl (fun u hu => by simp [cel] at hu; rcases hu with rfl | rfl <;> rfl) OWN1.out HB3.out HB3.out.size (by omega) ?_; intro v2 w4 own2 hb4 gr2 hat; go_must (have OWN2 := Aside0.mk own2; have HB4 := Aside0.mk hb4; have H14 := Aside0.mk (hw_below H1.out hb4); have H24 := Aside0.mk (pw_own_below H2.out hb4); clear own2 gr2 hat hb4 k2 zg fz; have k2 := blk_cell H14.out 0; have zg := blk_lt H14.out; have fz := blk_frozen H14.out 0; simp only [List.getElem?_toArray, List.getElem?_cons_zero, List.getElem?_cons_succ] at k2))
    | (at_builtin; refine wp_appendC _ rfl _ _ 22 rfl W0.heap.size 30 (.agg #[.string ⟨#[]⟩, .int .i64 0]) 24 Try.underlying22 infoEl rfl v2 (0 + 1) ((([] : List El).take 0).flatMap cel ++ cel x) rfl OWN2.out (.slice none 0 0) (0) ((([] : List El).drop 0).flatMap cel) rfl (Or.inl ⟨0, rfl, rfl, rfl⟩) (cells_one _) (by unfold maxLen; omega) (by omega) HB4.out.size ?_; intro v3 w5 own3 gr3; go_must (obtain ⟨ad3, cap3, rfl⟩ := own_slice own3; have hb5 := HB4.out.grown gr3 HB4.out.size (fun j hj => (OWN2.out.lt j hj).1); have OWN3 := Aside0.mk own3; have HB5 := Aside0.mk hb5; have H15 := Aside0.mk (hw_below H1.out hb5); clear own3 gr3 hb5 k2 zg fz; have k2 := blk_cell H15.out 0; have zg := blk_lt H15.out; have fz := blk_frozen H15.out 0; simp only [List.getElem?_toArray, List.getElem?_cons_zero, List.getElem?_cons_succ] at k2)))
  go_ret
  have E := row_end (ls := ins nm ([] : List El) x) (n3 := 0 + 1 + 0) HB.out HB5.out ZR.out H15.out (by
    have q := OWN3.out
    have e : (ins nm ([] : List El) x).flatMap cel = (([] : List El).take 0).flatMap cel ++ cel x ++ (([] : List El).drop 0).flatMap cel := by
      unfold Go.Proofs.YtdahijckoblbgaaHT.ins
      rw [show ix nm ([] : List El) (nm x) = 0 from HI.out]
      simp
    rw [e]; exact q) ((ins_len _ _).trans (by first | omega | rfl))
  exact ⟨rfl, E.1, E.2⟩

def RefAddPost (r : Nat) (ls : List El) (x : El) (w : World) (e : Ending) (w' : World) : Prop := e = .returned (.int .i64 (addK ls x)) ∧ RefB w' r (addL ls x) ∧ KB r w w'
theorem RefAddAll (r : Nat) (ls : List El) (x : El) (w : World) (h : RefB w r ls) (hv : Valid ls) :
    Calls Try.prog 23 #[.pointer (some ⟨r, 0, none⟩), .agg #[.string x.f0, .int .i64 x.f1]] w (RefAddPost r ls x w) := by
  have no : ∀ c : Int, addK ls x = c → c ≠ 0 → ∀ e w', (e = .returned (.int .i64 c) ∧ Below w.heap.size w w') → RefAddPost r ls x w e w' := fun c hc h0 e w' ⟨he, hb⟩ =>
    ⟨by rw [hc]; exact he, by unfold addL; rw [if_neg (by rw [hc]; exact h0)]; exact h.below hb, KB.below hb⟩
  have h32 := hv.len
  cases hc : okB x with
  | false => exact (RefAddArg r ls x w h hv.up h32 hc).mono fun e w' hp => no 2 (by unfold addK; rw [if_pos hc]) (by decide) e w' hp
  | true =>
    cases hg : get nm ls x.f0 with
    | some y => exact (RefAddHave r ls x w h hv.up h32 hc y hg).mono fun e w' hp => no 9 (by unfold addK; rw [if_neg (by rw [hc]; decide), if_pos (by rw [hg]; rfl)]) (by decide) e w' hp
    | none =>
      by_cases hl : 32 ≤ ls.length
      · exact (RefAddFull r ls x w h hv.up h32 hc hg hl).mono fun e w' hp => no 4 (by unfold addK; rw [if_neg (by rw [hc]; decide), if_neg (by rw [hg]; decide), if_pos hl]) (by decide) e w' hp
      · have h0 : addK ls x = 0 := by unfold addK; rw [if_neg (by rw [hc]; decide), if_neg (by rw [hg]; decide), if_neg hl]
        have yes : ∀ e w', (e = .returned (.int .i64 0) ∧ RefB w' r (ins nm ls x) ∧ KB r w w') → RefAddPost r ls x w e w' := fun e w' hp => ⟨by rw [h0]; exact hp.1, by unfold addL; rw [if_pos h0]; exact hp.2.1, hp.2.2⟩
        rcases h.form with ⟨hf, rfl⟩ | ⟨gl, cap, hf, hcap⟩
        · exact (RefAddNil r x w hf hv.up (by omega) hc hg).mono yes
        · by_cases hx : cap = ix nm ls x.f0
          · have hle := ix_le (nm := nm) ls x.f0
            have e1 : cap = ls.length := by omega
            subst e1
            exact (RefAddEnd r ls x w gl hx.symm hf hv.up (by omega) hc hg).mono yes
          · exact (RefAddMid r ls x w gl cap hcap hx hf hv.up (by omega) hc hg).mono yes
end Go.Proofs.YtdahijckoblbgaaHVP
