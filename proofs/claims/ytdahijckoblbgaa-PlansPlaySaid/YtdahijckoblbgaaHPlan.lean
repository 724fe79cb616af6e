/- plans.Book: what each method does to a row that rises by names. -/
import Derived.Test.YtdahijckoblbgaaHVP3
import Derived.Test.YtdahijckoblbgaaPG27x3
import Derived.Outline
import Derived.StillTailTactics
namespace Go.Proofs.YtdahijckoblbgaaHVP
open Go.RowKit Go.Maps Go.Sort Go.Shelf Go.Lib Go.Proofs.YtdahijckoblbgaaW.PrintWords Go.Proofs.YtdahijckoblbgaaHW Go.Proofs.YtdahijckoblbgaaHG Go.Proofs.Ytdahijckoblbgaa.PG27 Go.Proofs.YtdahijckoblbgaaHT
set_option linter.unusedVariables false
set_option linter.unusedSimpArgs false
abbrev ZP : Value := .agg #[.string ⟨#[]⟩, .int .i64 0]
/-- Whether a plan may be. -/
def okB (x : El) : Bool := decide (1 ≤ x.f0.size ∧ x.f0.size ≤ 32 ∧ 1 ≤ x.f1 ∧ x.f1 ≤ 1099511627776)
/-- Block g is a book, whose map is block b, and whose row is ls. -/
def BookAt (w : World) (g b : Nat) (ls : List El) : Prop :=
  w.heap[g]? = some (.cells #[.map (some b)] 84 (0, 0)) ∧ MapIs Try.prog 9 ZP w b (mapOf ls) ls.length ∧ g ≠ b
structure Valid (ls : List El) : Prop where
  up : Up nm ls
  len : ls.length ≤ 32
  ok : ∀ x ∈ ls, okB x = true
theorem BookAt.kb {w w' : World} {g b : Nat} {ls : List El} (h : BookAt w g b ls) (hb : Below w.heap.size w w') : BookAt w' g b ls :=
  ⟨hw_below h.1 hb, h.2.1.heap (hb.block b h.2.1.lt), h.2.2⟩
theorem keyS (s : ByteArray) (h : s.size ≤ 140737488351232) : keyOf Try.prog 9 (.string s) = some (.string s.data.toList) := Go.WideMaps.keyOf_string_mk Try.underlying9 (by unfold maxLen; omega)
theorem look {ls : List El} {s : ByteArray} {r : Option El} (h : get nm ls s = r) : mapOf ls (.string s.data.toList) = r.map encV := by rw [mapOf_str, h]
theorem look2 (ls : List El) (s : ByteArray) : ∃ p q, (mapOf ls (.string s.data.toList)).getD ZP = .agg #[.string p, .int .i64 q] ∧ (mapOf ls (.string s.data.toList)).isSome = (get nm ls s).isSome := by
  rw [mapOf_str]
  cases get nm ls s with
  | none => exact ⟨_, _, rfl, rfl⟩
  | some y => exact ⟨_, _, rfl, rfl⟩
theorem look_some {ls : List El} {s : ByteArray} {y : El} (h : get nm ls s = some y) : (mapOf ls (.string s.data.toList)).getD ZP = .agg #[.string y.f0, .int .i64 y.f1] ∧ (mapOf ls (.string s.data.toList)).isSome = true := by rw [mapOf_str, h]; exact ⟨rfl, rfl⟩
theorem look_none {ls : List El} {s : ByteArray} (h : get nm ls s = none) : (mapOf ls (.string s.data.toList)).getD ZP = .agg #[.string ⟨#[]⟩, .int .i64 0] ∧ (mapOf ls (.string s.data.toList)).isSome = false := by rw [mapOf_str, h]; exact ⟨rfl, rfl⟩
theorem check_ok (x : El) : plans_Check.f x.f0 x.f1 = some (if okB x = true then 0 else 2) := by
  unfold plans_Check.f okB
  have e : x.f0.toList = ([] : List UInt8) ↔ x.f0.size = 0 := by
    rw [ByteArray.toList_eq]
    constructor
    · intro h
      have := congrArg List.length h
      simpa using this
    · intro h
      have h' : x.f0.data.size = 0 := h
      show x.f0.data.toList = []
      simp [Array.eq_empty_of_size_eq_zero h']
  by_cases h0 : x.f0.size = 0
  · rw [if_pos (e.mpr h0), if_neg (by simp [h0])]
  · rw [if_neg (fun h => h0 (e.mp h))]
    by_cases h1 : (x.f0.size : Int) > 32
    · rw [if_pos h1, if_neg (by simp; omega)]
    · rw [if_neg h1]
      by_cases h2 : x.f1 < 1
      · rw [if_pos h2, if_neg (by simp; omega)]
      · rw [if_neg h2]
        by_cases h3 : x.f1 > 1099511627776
        · rw [if_pos h3, if_neg (by simp; omega)]
        · rw [if_neg h3, if_pos (by simp; omega)]
theorem ElAt.alloc {W : World} {B : Nat} {x : El} (h : ElAt W B x) (o : Obj) : ElAt (W.alloc o) B x := h.kept (World.grownBy_alloc W o none) (by simp)
theorem ElAt.drew {W : World} {B : Nat} {x : El} (h : ElAt W B x) : ElAt W.drew B x := h
theorem elAt_call {W w1 : World} {B : Nat} {x : El} (h : ElAt W B x) (hb : Below W.heap.size W w1) : ElAt w1 B x := (hb.block B (Array.getElem?_eq_some_iff.1 h).1).trans h
theorem elAt_new (w : World) (x : El) : ElAt (w.alloc (Obj.cells #[Value.string x.f0, Value.int IntKind.i64 x.f1] 30)) w.heap.size x := World.alloc_heap_new w _
theorem mapis_call {W w1 : World} {b c : Nat} {M : Lit → Option Value} (h : MapIs Try.prog 9 ZP W b M c) (hb : Below W.heap.size W w1) : MapIs Try.prog 9 ZP w1 b M c := h.heap (hb.block b h.lt)
set_option maxHeartbeats 1000000 in
theorem book_len (b c : Nat) (M : Lit → Option Value) (w : World) (h : MapIs Try.prog 9 ZP w b M c) :
    Calls Try.prog 46 #[.agg #[.map (some b)]] w fun e w' => e = .returned (.int .i64 c) ∧ Below w.heap.size w w' := by
  have HM := Aside0.mk h
  have HB := Aside0.mk (Below.refl w.heap.size w)
  have huB := Try.underlying82
  clear h
  go_enter Try.func46, Try.ntmps46
  go_wp2_with (refine wp_len _ rfl _ 80 rfl 9 30 Try.underlying80 ZP b c M rfl (by repeat (first | exact HM.out | apply MapIs.alloc | apply MapIs.drewN | apply MapIs.drew)) ?_)
  go_ret
  exact ⟨rfl, (by repeat (first | (with_reducible first | exact HB.out | apply below_alloc | apply pw_below_drewN | apply below_drew1 | apply below_drew) | (refine Below.setCell ?_ (by first | (simp; done) | (simp; omega)) _)))⟩

set_option maxRecDepth 100000 in
set_option maxHeartbeats 2000000 in
theorem AddArg (g b : Nat) (ls : List El) (x : El) (w : World) (h : BookAt w g b ls) (hv : Valid ls) (hx : x.f0.size ≤ 140737488351232) (hc : okB x = false) :
    Calls Try.prog 17 #[.pointer (some ⟨g, 0, none⟩), .agg #[.string x.f0, .int .i64 x.f1]] w fun e w' => e = .returned (.int .i64 2) ∧ Below w.heap.size w w' := by
  have k0 := blk_cell h.1 0
  simp only [List.getElem?_toArray, List.getElem?_cons_zero, List.getElem?_cons_succ] at k0
  have zg := blk_lt h.1
  have zb := h.2.1.lt
  have HM := Aside0.mk h.2.1
  have HG := Aside0.mk h
  have HV := Aside0.mk hv
  have HB := Aside0.mk (Below.refl w.heap.size w)
  have HX := Aside0.mk (elAt_new w x)
  have huE := Try.underlying30
  have huB := Try.underlying82
  have HC := Aside0.mk (check_ok x)
  rw [hc] at HC
  simp only [Bool.false_eq_true, if_false] at HC
  obtain ⟨p_, q_, hE⟩ := look2 ls x.f0
  obtain ⟨i_, hi⟩ : ∃ i_, (get nm ls x.f0).isSome = i_ := ⟨_, rfl⟩
  rw [hi] at hE
  have E := Aside0.mk hE
  clear hc hE hi
  clear h hv
  go_enter Try.func17, Try.ntmps17
  go_wp2_with fail
  have hl1 := (show MapIs Try.prog 9 ZP (w.alloc (Obj.cells #[Value.string x.f0, Value.int IntKind.i64 x.f1] 30)).drew b (mapOf ls) ls.length from ((HM.out.alloc _).drew)).look2_run str_keyed Try.underlying80 (Try.zeroValue30 _) (keyS x.f0 hx) trivial
  rw [E.out.1, E.out.2] at hl1
  have hl2 := (show MapIs Try.prog 9 ZP ((w.alloc (Obj.cells #[Value.string x.f0, Value.int IntKind.i64 x.f1] 30)).alloc (Obj.cells #[Value.string { data := #[] }, Value.int IntKind.i64 0] 30)).drew b (mapOf ls) ls.length from (((HM.out.alloc _).alloc _).drew)).look2_run str_keyed Try.underlying80 (Try.zeroValue30 _) (keyS x.f0 hx) trivial
  rw [E.out.1, E.out.2] at hl2
  go_region
  all_goals
    (try clear hl1 hl2)
    go_wp2_with (first | (go_at_call 21; go_must (refine (plans_Check.calls _ _ 2 _ HC.out).mono ?_); go_must (rintro e w1 ⟨rfl, hb1⟩; have HM_ := Aside0.mk (mapis_call (by repeat (first | exact HM.out | apply MapIs.alloc | apply MapIs.drewN | apply MapIs.drew)) hb1); have HB_ := Aside0.mk (below_step (by repeat (first | (with_reducible first | exact HB.out | apply below_alloc | apply pw_below_drewN | apply below_drew1 | apply below_drew) | (refine Below.setCell ?_ (by first | (simp; done) | (simp; omega)) _))) hb1); have HX_ := Aside0.mk (elAt_call (B := w.heap.size) (x := x) (by repeat (first | (with_reducible exact HX.out) | (with_reducible apply ElAt.drew) | (with_reducible apply ElAt.alloc))) hb1); replace HM := HM_; replace HB := HB_; replace HX := HX_; clear hb1 HM_ HB_ HX_; have k1_ := blk_cell (hw_below HG.out.1 HB.out) 0; have x0_ := HX.out.cell 0; have x1_ := HX.out.cell 1; simp only [cel, List.getElem?_toArray, List.getElem?_cons_zero, List.getElem?_cons_succ] at k1_ x0_ x1_; have z1_ := HB.out.size)))
    go_ret
    exact ⟨rfl, (by repeat (first | (with_reducible first | exact HB.out | apply below_alloc | apply pw_below_drewN | apply below_drew1 | apply below_drew) | (refine Below.setCell ?_ (by first | (simp; done) | (simp; omega)) _)))⟩
set_option maxRecDepth 100000 in
set_option maxHeartbeats 2000000 in
theorem AddHave (g b : Nat) (ls : List El) (x : El) (w : World) (h : BookAt w g b ls) (hv : Valid ls) (hx : x.f0.size ≤ 140737488351232) (hc : okB x = true) (y : El) (hg : get nm ls x.f0 = some y) :
    Calls Try.prog 17 #[.pointer (some ⟨g, 0, none⟩), .agg #[.string x.f0, .int .i64 x.f1]] w fun e w' => e = .returned (.int .i64 9) ∧ Below w.heap.size w w' := by
  have k0 := blk_cell h.1 0
  simp only [List.getElem?_toArray, List.getElem?_cons_zero, List.getElem?_cons_succ] at k0
  have zg := blk_lt h.1
  have zb := h.2.1.lt
  have HM := Aside0.mk h.2.1
  have HG := Aside0.mk h
  have HV := Aside0.mk hv
  have HB := Aside0.mk (Below.refl w.heap.size w)
  have HX := Aside0.mk (elAt_new w x)
  have huE := Try.underlying30
  have huB := Try.underlying82
  have HC := Aside0.mk (check_ok x)
  rw [hc] at HC
  simp only [if_true] at HC
  have E := Aside0.mk (look_some hg)
  clear hc hg
  clear h hv
  go_enter Try.func17, Try.ntmps17
  go_wp2_with fail
  have hl1 := (show MapIs Try.prog 9 ZP (w.alloc (Obj.cells #[Value.string x.f0, Value.int IntKind.i64 x.f1] 30)).drew b (mapOf ls) ls.length from ((HM.out.alloc _).drew)).look2_run str_keyed Try.underlying80 (Try.zeroValue30 _) (keyS x.f0 hx) trivial
  rw [E.out.1, E.out.2] at hl1
  have hl2 := (show MapIs Try.prog 9 ZP ((w.alloc (Obj.cells #[Value.string x.f0, Value.int IntKind.i64 x.f1] 30)).alloc (Obj.cells #[Value.string { data := #[] }, Value.int IntKind.i64 0] 30)).drew b (mapOf ls) ls.length from (((HM.out.alloc _).alloc _).drew)).look2_run str_keyed Try.underlying80 (Try.zeroValue30 _) (keyS x.f0 hx) trivial
  rw [E.out.1, E.out.2] at hl2
  go_region
  all_goals
    (try clear hl1 hl2)
    go_wp2_with (first | (go_at_call 21; go_must (refine (plans_Check.calls _ _ 0 _ HC.out).mono ?_); go_must (rintro e w1 ⟨rfl, hb1⟩; have HM_ := Aside0.mk (mapis_call (by repeat (first | exact HM.out | apply MapIs.alloc | apply MapIs.drewN | apply MapIs.drew)) hb1); have HB_ := Aside0.mk (below_step (by repeat (first | (with_reducible first | exact HB.out | apply below_alloc | apply pw_below_drewN | apply below_drew1 | apply below_drew) | (refine Below.setCell ?_ (by first | (simp; done) | (simp; omega)) _))) hb1); have HX_ := Aside0.mk (elAt_call (B := w.heap.size) (x := x) (by repeat (first | (with_reducible exact HX.out) | (with_reducible apply ElAt.drew) | (with_reducible apply ElAt.alloc))) hb1); replace HM := HM_; replace HB := HB_; replace HX := HX_; clear hb1 HM_ HB_ HX_; have k1_ := blk_cell (hw_below HG.out.1 HB.out) 0; have x0_ := HX.out.cell 0; have x1_ := HX.out.cell 1; simp only [cel, List.getElem?_toArray, List.getElem?_cons_zero, List.getElem?_cons_succ] at k1_ x0_ x1_; have z1_ := HB.out.size)))
    go_ret
    exact ⟨rfl, (by repeat (first | (with_reducible first | exact HB.out | apply below_alloc | apply pw_below_drewN | apply below_drew1 | apply below_drew) | (refine Below.setCell ?_ (by first | (simp; done) | (simp; omega)) _)))⟩
set_option maxRecDepth 100000 in
set_option maxHeartbeats 2000000 in
theorem AddFull (g b : Nat) (ls : List El) (x : El) (w : World) (h : BookAt w g b ls) (hv : Valid ls) (hx : x.f0.size ≤ 140737488351232) (hc : okB x = true) (hg : get nm ls x.f0 = none) (hl : 32 ≤ ls.length) :
    Calls Try.prog 17 #[.pointer (some ⟨g, 0, none⟩), .agg #[.string x.f0, .int .i64 x.f1]] w fun e w' => e = .returned (.int .i64 4) ∧ Below w.heap.size w w' := by
  have k0 := blk_cell h.1 0
  simp only [List.getElem?_toArray, List.getElem?_cons_zero, List.getElem?_cons_succ] at k0
  have zg := blk_lt h.1
  have zb := h.2.1.lt
  have HM := Aside0.mk h.2.1
  have HG := Aside0.mk h
  have HV := Aside0.mk hv
  have HB := Aside0.mk (Below.refl w.heap.size w)
  have HX := Aside0.mk (elAt_new w x)
  have huE := Try.underlying30
  have huB := Try.underlying82
  have HC := Aside0.mk (check_ok x)
  rw [hc] at HC
  simp only [if_true] at HC
  have E := Aside0.mk (look_none hg)
  have hl' : (32 : Int) ≤ (ls.length : Int) := by omega
  clear hc hg hl
  clear h hv
  go_enter Try.func17, Try.ntmps17
  go_wp2_with fail
  have hl1 := (show MapIs Try.prog 9 ZP (w.alloc (Obj.cells #[Value.string x.f0, Value.int IntKind.i64 x.f1] 30)).drew b (mapOf ls) ls.length from ((HM.out.alloc _).drew)).look2_run str_keyed Try.underlying80 (Try.zeroValue30 _) (keyS x.f0 hx) trivial
  rw [E.out.1, E.out.2] at hl1
  have hl2 := (show MapIs Try.prog 9 ZP ((w.alloc (Obj.cells #[Value.string x.f0, Value.int IntKind.i64 x.f1] 30)).alloc (Obj.cells #[Value.string { data := #[] }, Value.int IntKind.i64 0] 30)).drew b (mapOf ls) ls.length from (((HM.out.alloc _).alloc _).drew)).look2_run str_keyed Try.underlying80 (Try.zeroValue30 _) (keyS x.f0 hx) trivial
  rw [E.out.1, E.out.2] at hl2
  go_region
  all_goals
    (try clear hl1 hl2)
    go_wp2_with (first | (go_at_call 21; go_must (refine (plans_Check.calls _ _ 0 _ HC.out).mono ?_); go_must (rintro e w1 ⟨rfl, hb1⟩; have HM_ := Aside0.mk (mapis_call (by repeat (first | exact HM.out | apply MapIs.alloc | apply MapIs.drewN | apply MapIs.drew)) hb1); have HB_ := Aside0.mk (below_step (by repeat (first | (with_reducible first | exact HB.out | apply below_alloc | apply pw_below_drewN | apply below_drew1 | apply below_drew) | (refine Below.setCell ?_ (by first | (simp; done) | (simp; omega)) _))) hb1); have HX_ := Aside0.mk (elAt_call (B := w.heap.size) (x := x) (by repeat (first | (with_reducible exact HX.out) | (with_reducible apply ElAt.drew) | (with_reducible apply ElAt.alloc))) hb1); replace HM := HM_; replace HB := HB_; replace HX := HX_; clear hb1 HM_ HB_ HX_; have k1_ := blk_cell (hw_below HG.out.1 HB.out) 0; have x0_ := HX.out.cell 0; have x1_ := HX.out.cell 1; simp only [cel, List.getElem?_toArray, List.getElem?_cons_zero, List.getElem?_cons_succ] at k1_ x0_ x1_; have z1_ := HB.out.size)) | (go_at_call 46; go_must (refine (book_len b _ _ _ (by repeat (first | exact HM.out | apply MapIs.alloc | apply MapIs.drewN | apply MapIs.drew))).mono ?_); go_must (rintro e w1 ⟨rfl, hb1⟩; have HM_ := Aside0.mk (mapis_call (by repeat (first | exact HM.out | apply MapIs.alloc | apply MapIs.drewN | apply MapIs.drew)) hb1); have HB_ := Aside0.mk (below_step (by repeat (first | (with_reducible first | exact HB.out | apply below_alloc | apply pw_below_drewN | apply below_drew1 | apply below_drew) | (refine Below.setCell ?_ (by first | (simp; done) | (simp; omega)) _))) hb1); have HX_ := Aside0.mk (elAt_call (B := w.heap.size) (x := x) (by repeat (first | (with_reducible exact HX.out) | (with_reducible apply ElAt.drew) | (with_reducible apply ElAt.alloc))) hb1); replace HM := HM_; replace HB := HB_; replace HX := HX_; clear hb1 HM_ HB_ HX_; have k1_ := blk_cell (hw_below HG.out.1 HB.out) 0; have x0_ := HX.out.cell 0; have x1_ := HX.out.cell 1; simp only [cel, List.getElem?_toArray, List.getElem?_cons_zero, List.getElem?_cons_succ] at k1_ x0_ x1_; have z1_ := HB.out.size)))
    go_ret
    exact ⟨rfl, (by repeat (first | (with_reducible first | exact HB.out | apply below_alloc | apply pw_below_drewN | apply below_drew1 | apply below_drew) | (refine Below.setCell ?_ (by first | (simp; done) | (simp; omega)) _)))⟩
set_option maxRecDepth 100000 in
set_option maxHeartbeats 2000000 in
theorem AddYes (g b : Nat) (ls : List El) (x : El) (w : World) (h : BookAt w g b ls) (hv : Valid ls) (hx : x.f0.size ≤ 140737488351232) (hc : okB x = true) (hg : get nm ls x.f0 = none) (hl : ls.length < 32) :
    Calls Try.prog 17 #[.pointer (some ⟨g, 0, none⟩), .agg #[.string x.f0, .int .i64 x.f1]] w fun e w' => e = .returned (.int .i64 0) ∧ BookAt w' g b (ins nm ls x) ∧ KB b w w' := by
  have k0 := blk_cell h.1 0
  simp only [List.getElem?_toArray, List.getElem?_cons_zero, List.getElem?_cons_succ] at k0
  have zg := blk_lt h.1
  have zb := h.2.1.lt
  have HM := Aside0.mk h.2.1
  have HG := Aside0.mk h
  have HV := Aside0.mk hv
  have HB := Aside0.mk (Below.refl w.heap.size w)
  have HX := Aside0.mk (elAt_new w x)
  have huE := Try.underlying30
  have huB := Try.underlying82
  have HC := Aside0.mk (check_ok x)
  rw [hc] at HC
  simp only [if_true] at HC
  have E := Aside0.mk (look_none hg)
  have hl' : ¬ (32 : Int) ≤ (ls.length : Int) := by omega
  have HN := Aside0.mk hg
  clear hc hg
  clear h hv
  go_enter Try.func17, Try.ntmps17
  go_wp2_with fail
  have hl1 := (show MapIs Try.prog 9 ZP (w.alloc (Obj.cells #[Value.string x.f0, Value.int IntKind.i64 x.f1] 30)).drew b (mapOf ls) ls.length from ((HM.out.alloc _).drew)).look2_run str_keyed Try.underlying80 (Try.zeroValue30 _) (keyS x.f0 hx) trivial
  rw [E.out.1, E.out.2] at hl1
  have hl2 := (show MapIs Try.prog 9 ZP ((w.alloc (Obj.cells #[Value.string x.f0, Value.int IntKind.i64 x.f1] 30)).alloc (Obj.cells #[Value.string { data := #[] }, Value.int IntKind.i64 0] 30)).drew b (mapOf ls) ls.length from (((HM.out.alloc _).alloc _).drew)).look2_run str_keyed Try.underlying80 (Try.zeroValue30 _) (keyS x.f0 hx) trivial
  rw [E.out.1, E.out.2] at hl2
  go_region
  all_goals
    (try clear hl1 hl2)
    go_wp2_with (first | (go_at_call 21; go_must (refine (plans_Check.calls _ _ 0 _ HC.out).mono ?_); go_must (rintro e w1 ⟨rfl, hb1⟩; have HM_ := Aside0.mk (mapis_call (by repeat (first | exact HM.out | apply MapIs.alloc | apply MapIs.drewN | apply MapIs.drew)) hb1); have HB_ := Aside0.mk (below_step (by repeat (first | (with_reducible first | exact HB.out | apply below_alloc | apply pw_below_drewN | apply below_drew1 | apply below_drew) | (refine Below.setCell ?_ (by first | (simp; done) | (simp; omega)) _))) hb1); have HX_ := Aside0.mk (elAt_call (B := w.heap.size) (x := x) (by repeat (first | (with_reducible exact HX.out) | (with_reducible apply ElAt.drew) | (with_reducible apply ElAt.alloc))) hb1); replace HM := HM_; replace HB := HB_; replace HX := HX_; clear hb1 HM_ HB_ HX_; have k1_ := blk_cell (hw_below HG.out.1 HB.out) 0; have x0_ := HX.out.cell 0; have x1_ := HX.out.cell 1; simp only [cel, List.getElem?_toArray, List.getElem?_cons_zero, List.getElem?_cons_succ] at k1_ x0_ x1_; have z1_ := HB.out.size)) | (go_at_call 46; go_must (refine (book_len b _ _ _ (by repeat (first | exact HM.out | apply MapIs.alloc | apply MapIs.drewN | apply MapIs.drew))).mono ?_); go_must (rintro e w1 ⟨rfl, hb1⟩; have HM_ := Aside0.mk (mapis_call (by repeat (first | exact HM.out | apply MapIs.alloc | apply MapIs.drewN | apply MapIs.drew)) hb1); have HB_ := Aside0.mk (below_step (by repeat (first | (with_reducible first | exact HB.out | apply below_alloc | apply pw_below_drewN | apply below_drew1 | apply below_drew) | (refine Below.setCell ?_ (by first | (simp; done) | (simp; omega)) _))) hb1); have HX_ := Aside0.mk (elAt_call (B := w.heap.size) (x := x) (by repeat (first | (with_reducible exact HX.out) | (with_reducible apply ElAt.drew) | (with_reducible apply ElAt.alloc))) hb1); replace HM := HM_; replace HB := HB_; replace HX := HX_; clear hb1 HM_ HB_ HX_; have k1_ := blk_cell (hw_below HG.out.1 HB.out) 0; have x0_ := HX.out.cell 0; have x1_ := HX.out.cell 1; simp only [cel, List.getElem?_toArray, List.getElem?_cons_zero, List.getElem?_cons_succ] at k1_ x0_ x1_; have z1_ := HB.out.size)))
    go_still_tail 8, (by kernel_rfl)
    (refine wp_update _ rfl _ _ _ 80 rfl 9 30 str_keyed Try.underlying80 ZP b _ _ rfl (by repeat (first | exact HM.out | apply MapIs.alloc | apply MapIs.drewN | apply MapIs.drew)) (by omega) _ (.string x.f0.data.toList) rfl (keyS _ hx) trivial (.agg #[.string x.f0, .int .i64 x.f1]) rfl ?_; intro w9 hm9 ht9; have hB9 : Below w.heap.size w _ := (by repeat (first | (with_reducible first | exact HB.out | apply below_alloc | apply pw_below_drewN | apply below_drew1 | apply below_drew) | (refine Below.setCell ?_ (by first | (simp; done) | (simp; omega)) _))); have HT9 := Aside0.mk ht9; have HM9 := Aside0.mk hm9; have HB9 := Aside0.mk hB9; clear ht9 hm9 hB9)
    go_wp2_with fail
    go_ret
    have KT : KB b w1 w9 := by
      have z := KB.turned HT9.out
      exact z
    have K1 := (KB.below (b := b) HB9.out).trans KT
    refine ⟨rfl, ⟨K1.block HG.out.1 HG.out.2.2, ?_, HG.out.2.2⟩, K1⟩
    have z := HM9.out
    rw [E.out.2] at z
    have z2 := z.congr (M' := mapOf (ins nm ls x)) (fun l hl => by
      have q := congrFun (mapOf_ins HV.out.up (x := x) HN.out) l
      exact q)
    rw [ins_len]
    exact z2
end Go.Proofs.YtdahijckoblbgaaHVP
