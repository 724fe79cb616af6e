/- The document's Read. -/
import Derived.Test.YtmgpaccgjafjeaaHRecB
import Derived.Test.YtmgpaccgjafjeaaHRec4
import Derived.Deep.RegionWith
namespace Go.Proofs.YtmgpaccgjafjeaaHVR
open Go.RowKit Go.Proofs.YtmgpaccgjafjeaaW.PrintWords Go.Proofs.YtmgpaccgjafjeaaHW Go.Proofs.YtmgpaccgjafjeaaHG Go.Proofs.Ytmgpaccgjafjeaa.PG28 Go.Proofs.YtmgpaccgjafjeaaHT
set_option linter.unusedVariables false
set_option linter.unusedSimpArgs false
theorem val4 {r : ByteArray} (h : r.size = 5) : halyardref01_Value.f 9 (r.extract 0 4) = some (adr r) := by
  have b0 := bt_range (r.extract 0 4) 0
  have b1 := bt_range (r.extract 0 4) 1
  have b2 := bt_range (r.extract 0 4) 2
  have b3 := bt_range (r.extract 0 4) 3
  have e : (r.extract 0 4).size = 4 := by rw [ByteArray.size_extract]; omega
  unfold halyardref01_Value.f adr
  rw [val_step _ _ _ _ (by omega) (by omega) (by omega) (by omega) (by omega), val_step _ _ _ _ (by omega) (by omega) (by omega) (by omega) (by omega)]
  simp only [show (0 : Int) + 1 = 1 from rfl, show (1 : Int) + 1 = 2 from rfl]
  rw [val_step _ _ _ _ (by omega) (by omega) (by omega) (by omega) (by omega)]
  simp only [show (2 : Int) + 1 = 3 from rfl]
  rw [val_step _ _ _ _ (by omega) (by omega) (by omega) (by omega) (by omega), val_end _ _ _ _ (by omega)]
  simp only [Option.some.injEq]
  omega
theorem str_eqs' {s t : ByteArray} (h : s = t) : (s.toList == t.toList) = true ∧ (t.toList == s.toList) = true := by subst h; exact ⟨beq_self_eq_true _, beq_self_eq_true _⟩
theorem str_nes' {s t : ByteArray} (h : ¬ s = t) : (s.toList == t.toList) = false ∧ (t.toList == s.toList) = false :=
  ⟨by rw [beq_eq_false_iff_ne]; exact fun e => h (hw_toList_inj e), by rw [beq_eq_false_iff_ne]; exact fun e => h (hw_toList_inj e).symm⟩
theorem elAt_bl {w w' : World} {B : Nat} {x : El} (h : ElAt w B x) (hb : Bl w w') : ElAt w' B x := elAt_call h hb.below
theorem el_set5 {W : World} {B : Nat} {x y : El} (h : ElAt W B x) : ElAt (((((W.setCell ⟨B, 0, none⟩ (.string y.f0)).setCell ⟨B, 1, none⟩ (.string y.f1)).setCell ⟨B, 2, none⟩ (.string y.f2)).setCell ⟨B, 3, none⟩ (.int .u32 y.f3)).setCell ⟨B, 4, none⟩ (.bool y.f4)) B y := by
  have z := blk_set (blk_set (blk_set (blk_set (blk_set h 0 (.string y.f0)) 1 (.string y.f1)) 2 (.string y.f2)) 3 (.int .u32 y.f3)) 4 (.bool y.f4)
  exact z
theorem el_far {W : World} {B C k : Nat} {x : El} (h : ElAt W B x) (hne : B ≠ C) (v : Value) : ElAt (W.setCell ⟨C, k, none⟩ v) B x := (Below.heap_setCell W ⟨C, k, none⟩ v B hne).trans h
theorem el_far5 {W : World} {B C : Nat} {x : El} (h : ElAt W B x) (hne : B ≠ C) (v0 v1 v2 v3 v4 : Value) : ElAt (((((W.setCell ⟨C, 0, none⟩ v0).setCell ⟨C, 1, none⟩ v1).setCell ⟨C, 2, none⟩ v2).setCell ⟨C, 3, none⟩ v3).setCell ⟨C, 4, none⟩ v4) B x := el_far (el_far (el_far (el_far (el_far h hne _) hne _) hne _) hne _) hne _
theorem rd8e : halyardref01_Read8.f ⟨#[]⟩ = some (⟨#[]⟩, ⟨#[]⟩, 6) := by kernel_rfl
theorem rr_some {s t r : ByteArray} (h : rd s = some (t, r)) : halyardref01_Read8.f s = some (t, r, 0) := by rw [read8_ref]; exact rd_some h
theorem rr_none {s : ByteArray} (hs : s.size ≤ 9000000000000000000) (h : rd s = none) : halyardref01_Read8.f s = some (⟨#[]⟩, ⟨#[]⟩, 6) := by rw [read8_ref]; exact rd_none hs h
/-- What the row of texts comes to, where it is whole. -/
theorem readK_parts {s n r1 c r2 p r : ByteArray} (h1 : rd s = some (n, r1)) (h2 : rd r1 = some (c, r2)) (h3 : rd r2 = some (p, r)) : readK s = lastK n c p r := by
  unfold readK; rw [h1]; dsimp only; rw [h2]; dsimp only; rw [h3]

set_option maxRecDepth 100000 in
set_option maxHeartbeats 8000000 in
theorem RefRead1 (s : ByteArray) (w : World) (hs : s.size ≤ 140737488351232) (h1 : rd s = none) :
    Calls Try.prog 13 #[.string s] w (ReadPost s w) := by
  have H1 := Aside0.mk (rr_none (by omega) h1)
  have HE := Aside0.mk rd8e
  have HK := Aside0.mk (show readK s = (z24, 7) by unfold readK; rw [h1])
  clear h1
  have HB := Aside0.mk ((Below.refl w.heap.size w).alloc (Nat.le_refl _) (Obj.cells #[Value.string { data := #[] }, Value.string { data := #[] }, Value.string { data := #[] }, Value.int IntKind.u32 0, Value.bool false] 24))
  have HX := Aside0.mk (elAt_new w z24)
  obtain ⟨e0, e1, e2, e3, e4⟩ := elAt_cells HX.out
  have zx := blk_lt HX.out
  have f0 := blk_frozen HX.out 0
  have f1 := blk_frozen HX.out 1
  have f2 := blk_frozen HX.out 2
  have f3 := blk_frozen HX.out 3
  have f4 := blk_frozen HX.out 4
  have huE := Try.underlying24
  have tok1 : True := trivial
  have tok2 : True := trivial
  have tok3 : True := trivial
  have tok4 : True := trivial
  go_enter Try.func13, Try.ntmps13
  go_wp2_with (first
    | (go_at_call 47; have t_ := tok1; go_must (refine (halyardref01_Read8.calls _ ⟨#[]⟩ ⟨#[]⟩ 6 _ H1.out).mono ?_); go_must (rintro e w1 ⟨rfl, hd⟩; have HX_ := Aside0.mk (elAt_call HX.out (drawn_below hd)); have HB_ := Aside0.mk (below_step HB.out (drawn_below hd)); replace HX := HX_; replace HB := HB_; clear HX_ HB_ hd tok1 e0 e1 e2 e3 e4 zx f0 f1 f2 f3 f4; obtain ⟨e0, e1, e2, e3, e4⟩ := elAt_cells HX.out; have zx := blk_lt HX.out; have f0 := blk_frozen HX.out 0; have f1 := blk_frozen HX.out 1; have f2 := blk_frozen HX.out 2; have f3 := blk_frozen HX.out 3; have f4 := blk_frozen HX.out 4))
    | (go_at_call 47; have t_ := tok2; go_must (refine (halyardref01_Read8.calls _ ⟨#[]⟩ ⟨#[]⟩ 6 _ HE.out).mono ?_); go_must (rintro e w2 ⟨rfl, hd⟩; have HX_ := Aside0.mk (elAt_call HX.out (drawn_below hd)); have HB_ := Aside0.mk (below_step HB.out (drawn_below hd)); replace HX := HX_; replace HB := HB_; clear HX_ HB_ hd tok2 e0 e1 e2 e3 e4 zx f0 f1 f2 f3 f4; obtain ⟨e0, e1, e2, e3, e4⟩ := elAt_cells HX.out; have zx := blk_lt HX.out; have f0 := blk_frozen HX.out 0; have f1 := blk_frozen HX.out 1; have f2 := blk_frozen HX.out 2; have f3 := blk_frozen HX.out 3; have f4 := blk_frozen HX.out 4))
    | (go_at_call 47; have t_ := tok3; go_must (refine (halyardref01_Read8.calls _ ⟨#[]⟩ ⟨#[]⟩ 6 _ HE.out).mono ?_); go_must (rintro e w3 ⟨rfl, hd⟩; have HX_ := Aside0.mk (elAt_call HX.out (drawn_below hd)); have HB_ := Aside0.mk (below_step HB.out (drawn_below hd)); replace HX := HX_; replace HB := HB_; clear HX_ HB_ hd tok3 e0 e1 e2 e3 e4 zx f0 f1 f2 f3 f4; obtain ⟨e0, e1, e2, e3, e4⟩ := elAt_cells HX.out; have zx := blk_lt HX.out; have f0 := blk_frozen HX.out 0; have f1 := blk_frozen HX.out 1; have f2 := blk_frozen HX.out 2; have f3 := blk_frozen HX.out 3; have f4 := blk_frozen HX.out 4)))
  refine bodyPost_ret (v := .tuple #[.agg #[.string ⟨#[]⟩, .string ⟨#[]⟩, .string ⟨#[]⟩, .int .u32 0, .bool false], .int .i64 7]) (by simp [results, Try.results13, go_sem, zx, e0, e1, e2, e3, e4]) rfl ⟨by rw [HK.out]; rfl, ?_⟩
  exact (by repeat (first | (with_reducible first | exact HB.out | apply below_alloc | apply pw_below_drewN | apply below_drew1 | apply below_drew) | (refine Below.setCell ?_ (by first | (simp; done) | (simp; omega)) _)))

set_option maxRecDepth 100000 in
set_option maxHeartbeats 8000000 in
theorem RefRead2 (s : ByteArray) (w : World) (hs : s.size ≤ 140737488351232) (n r1 : ByteArray) (h1 : rd s = some (n, r1)) (h2 : rd r1 = none) :
    Calls Try.prog 13 #[.string s] w (ReadPost s w) := by
  have H1 := Aside0.mk (rr_some h1)
  have H2 := Aside0.mk (rr_none (by have := rd_le (by omega) h1; omega) h2)
  have HE := Aside0.mk rd8e
  have HK := Aside0.mk (show readK s = (z24, 7) by unfold readK; rw [h1]; dsimp only; rw [h2])
  clear h1 h2
  have HB := Aside0.mk ((Below.refl w.heap.size w).alloc (Nat.le_refl _) (Obj.cells #[Value.string { data := #[] }, Value.string { data := #[] }, Value.string { data := #[] }, Value.int IntKind.u32 0, Value.bool false] 24))
  have HX := Aside0.mk (elAt_new w z24)
  obtain ⟨e0, e1, e2, e3, e4⟩ := elAt_cells HX.out
  have zx := blk_lt HX.out
  have f0 := blk_frozen HX.out 0
  have f1 := blk_frozen HX.out 1
  have f2 := blk_frozen HX.out 2
  have f3 := blk_frozen HX.out 3
  have f4 := blk_frozen HX.out 4
  have huE := Try.underlying24
  have tok1 : True := trivial
  have tok2 : True := trivial
  have tok3 : True := trivial
  have tok4 : True := trivial
  go_enter Try.func13, Try.ntmps13
  go_wp2_with (first
    | (go_at_call 47; have t_ := tok1; go_must (refine (halyardref01_Read8.calls _ n r1 0 _ H1.out).mono ?_); go_must (rintro e w1 ⟨rfl, hd⟩; have HX_ := Aside0.mk (elAt_call HX.out (drawn_below hd)); have HB_ := Aside0.mk (below_step HB.out (drawn_below hd)); replace HX := HX_; replace HB := HB_; clear HX_ HB_ hd tok1 e0 e1 e2 e3 e4 zx f0 f1 f2 f3 f4; obtain ⟨e0, e1, e2, e3, e4⟩ := elAt_cells HX.out; have zx := blk_lt HX.out; have f0 := blk_frozen HX.out 0; have f1 := blk_frozen HX.out 1; have f2 := blk_frozen HX.out 2; have f3 := blk_frozen HX.out 3; have f4 := blk_frozen HX.out 4))
    | (go_at_call 47; have t_ := tok2; go_must (refine (halyardref01_Read8.calls _ ⟨#[]⟩ ⟨#[]⟩ 6 _ H2.out).mono ?_); go_must (rintro e w2 ⟨rfl, hd⟩; have HX_ := Aside0.mk (elAt_call HX.out (drawn_below hd)); have HB_ := Aside0.mk (below_step HB.out (drawn_below hd)); replace HX := HX_; replace HB := HB_; clear HX_ HB_ hd tok2 e0 e1 e2 e3 e4 zx f0 f1 f2 f3 f4; obtain ⟨e0, e1, e2, e3, e4⟩ := elAt_cells HX.out; have zx := blk_lt HX.out; have f0 := blk_frozen HX.out 0; have f1 := blk_frozen HX.out 1; have f2 := blk_frozen HX.out 2; have f3 := blk_frozen HX.out 3; have f4 := blk_frozen HX.out 4))
    | (go_at_call 47; have t_ := tok3; go_must (refine (halyardref01_Read8.calls _ ⟨#[]⟩ ⟨#[]⟩ 6 _ HE.out).mono ?_); go_must (rintro e w3 ⟨rfl, hd⟩; have HX_ := Aside0.mk (elAt_call HX.out (drawn_below hd)); have HB_ := Aside0.mk (below_step HB.out (drawn_below hd)); replace HX := HX_; replace HB := HB_; clear HX_ HB_ hd tok3 e0 e1 e2 e3 e4 zx f0 f1 f2 f3 f4; obtain ⟨e0, e1, e2, e3, e4⟩ := elAt_cells HX.out; have zx := blk_lt HX.out; have f0 := blk_frozen HX.out 0; have f1 := blk_frozen HX.out 1; have f2 := blk_frozen HX.out 2; have f3 := blk_frozen HX.out 3; have f4 := blk_frozen HX.out 4)))
  refine bodyPost_ret (v := .tuple #[.agg #[.string ⟨#[]⟩, .string ⟨#[]⟩, .string ⟨#[]⟩, .int .u32 0, .bool false], .int .i64 7]) (by simp [results, Try.results13, go_sem, zx, e0, e1, e2, e3, e4]) rfl ⟨by rw [HK.out]; rfl, ?_⟩
  exact (by repeat (first | (with_reducible first | exact HB.out | apply below_alloc | apply pw_below_drewN | apply below_drew1 | apply below_drew) | (refine Below.setCell ?_ (by first | (simp; done) | (simp; omega)) _)))

set_option maxRecDepth 100000 in
set_option maxHeartbeats 8000000 in
theorem RefRead3 (s : ByteArray) (w : World) (hs : s.size ≤ 140737488351232) (n r1 c r2 : ByteArray) (h1 : rd s = some (n, r1)) (h2 : rd r1 = some (c, r2)) (h3 : rd r2 = none) :
    Calls Try.prog 13 #[.string s] w (ReadPost s w) := by
  have H1 := Aside0.mk (rr_some h1)
  have H2 := Aside0.mk (rr_some h2)
  have H3 := Aside0.mk (rr_none (by have q := rd_le (by omega) h1; have := rd_le (by omega) h2; omega) h3)
  have HK := Aside0.mk (show readK s = (z24, 7) by unfold readK; rw [h1]; dsimp only; rw [h2]; dsimp only; rw [h3])
  clear h1 h2 h3
  have HB := Aside0.mk ((Below.refl w.heap.size w).alloc (Nat.le_refl _) (Obj.cells #[Value.string { data := #[] }, Value.string { data := #[] }, Value.string { data := #[] }, Value.int IntKind.u32 0, Value.bool false] 24))
  have HX := Aside0.mk (elAt_new w z24)
  obtain ⟨e0, e1, e2, e3, e4⟩ := elAt_cells HX.out
  have zx := blk_lt HX.out
  have f0 := blk_frozen HX.out 0
  have f1 := blk_frozen HX.out 1
  have f2 := blk_frozen HX.out 2
  have f3 := blk_frozen HX.out 3
  have f4 := blk_frozen HX.out 4
  have huE := Try.underlying24
  have tok1 : True := trivial
  have tok2 : True := trivial
  have tok3 : True := trivial
  have tok4 : True := trivial
  go_enter Try.func13, Try.ntmps13
  go_wp2_with (first
    | (go_at_call 47; have t_ := tok1; go_must (refine (halyardref01_Read8.calls _ n r1 0 _ H1.out).mono ?_); go_must (rintro e w1 ⟨rfl, hd⟩; have HX_ := Aside0.mk (elAt_call HX.out (drawn_below hd)); have HB_ := Aside0.mk (below_step HB.out (drawn_below hd)); replace HX := HX_; replace HB := HB_; clear HX_ HB_ hd tok1 e0 e1 e2 e3 e4 zx f0 f1 f2 f3 f4; obtain ⟨e0, e1, e2, e3, e4⟩ := elAt_cells HX.out; have zx := blk_lt HX.out; have f0 := blk_frozen HX.out 0; have f1 := blk_frozen HX.out 1; have f2 := blk_frozen HX.out 2; have f3 := blk_frozen HX.out 3; have f4 := blk_frozen HX.out 4))
    | (go_at_call 47; have t_ := tok2; go_must (refine (halyardref01_Read8.calls _ c r2 0 _ H2.out).mono ?_); go_must (rintro e w2 ⟨rfl, hd⟩; have HX_ := Aside0.mk (elAt_call HX.out (drawn_below hd)); have HB_ := Aside0.mk (below_step HB.out (drawn_below hd)); replace HX := HX_; replace HB := HB_; clear HX_ HB_ hd tok2 e0 e1 e2 e3 e4 zx f0 f1 f2 f3 f4; obtain ⟨e0, e1, e2, e3, e4⟩ := elAt_cells HX.out; have zx := blk_lt HX.out; have f0 := blk_frozen HX.out 0; have f1 := blk_frozen HX.out 1; have f2 := blk_frozen HX.out 2; have f3 := blk_frozen HX.out 3; have f4 := blk_frozen HX.out 4))
    | (go_at_call 47; have t_ := tok3; go_must (refine (halyardref01_Read8.calls _ ⟨#[]⟩ ⟨#[]⟩ 6 _ H3.out).mono ?_); go_must (rintro e w3 ⟨rfl, hd⟩; have HX_ := Aside0.mk (elAt_call HX.out (drawn_below hd)); have HB_ := Aside0.mk (below_step HB.out (drawn_below hd)); replace HX := HX_; replace HB := HB_; clear HX_ HB_ hd tok3 e0 e1 e2 e3 e4 zx f0 f1 f2 f3 f4; obtain ⟨e0, e1, e2, e3, e4⟩ := elAt_cells HX.out; have zx := blk_lt HX.out; have f0 := blk_frozen HX.out 0; have f1 := blk_frozen HX.out 1; have f2 := blk_frozen HX.out 2; have f3 := blk_frozen HX.out 3; have f4 := blk_frozen HX.out 4)))
  refine bodyPost_ret (v := .tuple #[.agg #[.string ⟨#[]⟩, .string ⟨#[]⟩, .string ⟨#[]⟩, .int .u32 0, .bool false], .int .i64 7]) (by simp [results, Try.results13, go_sem, zx, e0, e1, e2, e3, e4]) rfl ⟨by rw [HK.out]; rfl, ?_⟩
  exact (by repeat (first | (with_reducible first | exact HB.out | apply below_alloc | apply pw_below_drewN | apply below_drew1 | apply below_drew) | (refine Below.setCell ?_ (by first | (simp; done) | (simp; omega)) _)))

set_option maxRecDepth 100000 in
set_option maxHeartbeats 8000000 in
theorem RefRead4 (s : ByteArray) (w : World) (hs : s.size ≤ 140737488351232) (n r1 c r2 p r : ByteArray) (h1 : rd s = some (n, r1)) (h2 : rd r1 = some (c, r2)) (h3 : rd r2 = some (p, r)) (h5 : ¬ r.size = 5) :
    Calls Try.prog 13 #[.string s] w (ReadPost s w) := by
  have H1 := Aside0.mk (rr_some h1)
  have H2 := Aside0.mk (rr_some h2)
  have H3 := Aside0.mk (rr_some h3)
  have HP := Aside0.mk (readK_parts h1 h2 h3)
  have hz : ¬ (r.size : Int) = 5 := by omega
  have d5 : ((r.size : Int) == 5) = false := by simpa using hz
  have d6 : ((r.size : Int) != 5) = true := by simp [bne, d5]
  have HK := Aside0.mk (show readK s = (z24, 7) by rw [HP.out]; unfold lastK; rw [if_neg (fun e => h5 e.1)])
  clear h1 h2 h3
  have HB := Aside0.mk ((Below.refl w.heap.size w).alloc (Nat.le_refl _) (Obj.cells #[Value.string { data := #[] }, Value.string { data := #[] }, Value.string { data := #[] }, Value.int IntKind.u32 0, Value.bool false] 24))
  have HX := Aside0.mk (elAt_new w z24)
  obtain ⟨e0, e1, e2, e3, e4⟩ := elAt_cells HX.out
  have zx := blk_lt HX.out
  have f0 := blk_frozen HX.out 0
  have f1 := blk_frozen HX.out 1
  have f2 := blk_frozen HX.out 2
  have f3 := blk_frozen HX.out 3
  have f4 := blk_frozen HX.out 4
  have huE := Try.underlying24
  have tok1 : True := trivial
  have tok2 : True := trivial
  have tok3 : True := trivial
  have tok4 : True := trivial
  go_enter Try.func13, Try.ntmps13
  go_wp2_with (first
    | (go_at_call 47; have t_ := tok1; go_must (refine (halyardref01_Read8.calls _ n r1 0 _ H1.out).mono ?_); go_must (rintro e w1 ⟨rfl, hd⟩; have HX_ := Aside0.mk (elAt_call HX.out (drawn_below hd)); have HB_ := Aside0.mk (below_step HB.out (drawn_below hd)); replace HX := HX_; replace HB := HB_; clear HX_ HB_ hd tok1 e0 e1 e2 e3 e4 zx f0 f1 f2 f3 f4; obtain ⟨e0, e1, e2, e3, e4⟩ := elAt_cells HX.out; have zx := blk_lt HX.out; have f0 := blk_frozen HX.out 0; have f1 := blk_frozen HX.out 1; have f2 := blk_frozen HX.out 2; have f3 := blk_frozen HX.out 3; have f4 := blk_frozen HX.out 4))
    | (go_at_call 47; have t_ := tok2; go_must (refine (halyardref01_Read8.calls _ c r2 0 _ H2.out).mono ?_); go_must (rintro e w2 ⟨rfl, hd⟩; have HX_ := Aside0.mk (elAt_call HX.out (drawn_below hd)); have HB_ := Aside0.mk (below_step HB.out (drawn_below hd)); replace HX := HX_; replace HB := HB_; clear HX_ HB_ hd tok2 e0 e1 e2 e3 e4 zx f0 f1 f2 f3 f4; obtain ⟨e0, e1, e2, e3, e4⟩ := elAt_cells HX.out; have zx := blk_lt HX.out; have f0 := blk_frozen HX.out 0; have f1 := blk_frozen HX.out 1; have f2 := blk_frozen HX.out 2; have f3 := blk_frozen HX.out 3; have f4 := blk_frozen HX.out 4))
    | (go_at_call 47; have t_ := tok3; go_must (refine (halyardref01_Read8.calls _ p r 0 _ H3.out).mono ?_); go_must (rintro e w3 ⟨rfl, hd⟩; have HX_ := Aside0.mk (elAt_call HX.out (drawn_below hd)); have HB_ := Aside0.mk (below_step HB.out (drawn_below hd)); replace HX := HX_; replace HB := HB_; clear HX_ HB_ hd tok3 e0 e1 e2 e3 e4 zx f0 f1 f2 f3 f4; obtain ⟨e0, e1, e2, e3, e4⟩ := elAt_cells HX.out; have zx := blk_lt HX.out; have f0 := blk_frozen HX.out 0; have f1 := blk_frozen HX.out 1; have f2 := blk_frozen HX.out 2; have f3 := blk_frozen HX.out 3; have f4 := blk_frozen HX.out 4)))
  refine bodyPost_ret (v := .tuple #[.agg #[.string ⟨#[]⟩, .string ⟨#[]⟩, .string ⟨#[]⟩, .int .u32 0, .bool false], .int .i64 7]) (by simp [results, Try.results13, go_sem, zx, e0, e1, e2, e3, e4]) rfl ⟨by rw [HK.out]; rfl, ?_⟩
  exact (by repeat (first | (with_reducible first | exact HB.out | apply below_alloc | apply pw_below_drewN | apply below_drew1 | apply below_drew) | (refine Below.setCell ?_ (by first | (simp; done) | (simp; omega)) _)))

set_option maxRecDepth 100000 in
set_option maxHeartbeats 8000000 in
theorem RefRead5 (s : ByteArray) (w : World) (hs : s.size ≤ 140737488351232) (n r1 c r2 p r : ByteArray) (h1 : rd s = some (n, r1)) (h2 : rd r1 = some (c, r2)) (h3 : rd r2 = some (p, r)) (h5 : r.size = 5) :
    Calls Try.prog 13 #[.string s] w (ReadPost s w) := by
  have H1 := Aside0.mk (rr_some h1)
  have H2 := Aside0.mk (rr_some h2)
  have H3 := Aside0.mk (rr_some h3)
  have HP := Aside0.mk (readK_parts h1 h2 h3)
  have hz : (r.size : Int) = 5 := by omega
  have HZ := Aside0.mk h5
  have hx4 : ∀ h : 4 < r.size, ((r[4]'h).toNat : Int) = bt r 4 := bt_at r 4
  have hz4 : 4 < r.size := by omega
  clear h1 h2 h3
  have HB := Aside0.mk ((Below.refl w.heap.size w).alloc (Nat.le_refl _) (Obj.cells #[Value.string { data := #[] }, Value.string { data := #[] }, Value.string { data := #[] }, Value.int IntKind.u32 0, Value.bool false] 24))
  have HX := Aside0.mk (elAt_new w z24)
  obtain ⟨e0, e1, e2, e3, e4⟩ := elAt_cells HX.out
  have zx := blk_lt HX.out
  have f0 := blk_frozen HX.out 0
  have f1 := blk_frozen HX.out 1
  have f2 := blk_frozen HX.out 2
  have f3 := blk_frozen HX.out 3
  have f4 := blk_frozen HX.out 4
  have huE := Try.underlying24
  have tok1 : True := trivial
  have tok2 : True := trivial
  have tok3 : True := trivial
  have tok4 : True := trivial
  go_enter Try.func13, Try.ntmps13
  go_upto_region 6 with (first
    | (go_at_call 47; have t_ := tok1; go_must (refine (halyardref01_Read8.calls _ n r1 0 _ H1.out).mono ?_); go_must (rintro e w1 ⟨rfl, hd⟩; have HX_ := Aside0.mk (elAt_call HX.out (drawn_below hd)); have HB_ := Aside0.mk (below_step HB.out (drawn_below hd)); replace HX := HX_; replace HB := HB_; clear HX_ HB_ hd tok1 e0 e1 e2 e3 e4 zx f0 f1 f2 f3 f4; obtain ⟨e0, e1, e2, e3, e4⟩ := elAt_cells HX.out; have zx := blk_lt HX.out; have f0 := blk_frozen HX.out 0; have f1 := blk_frozen HX.out 1; have f2 := blk_frozen HX.out 2; have f3 := blk_frozen HX.out 3; have f4 := blk_frozen HX.out 4))
    | (go_at_call 47; have t_ := tok2; go_must (refine (halyardref01_Read8.calls _ c r2 0 _ H2.out).mono ?_); go_must (rintro e w2 ⟨rfl, hd⟩; have HX_ := Aside0.mk (elAt_call HX.out (drawn_below hd)); have HB_ := Aside0.mk (below_step HB.out (drawn_below hd)); replace HX := HX_; replace HB := HB_; clear HX_ HB_ hd tok2 e0 e1 e2 e3 e4 zx f0 f1 f2 f3 f4; obtain ⟨e0, e1, e2, e3, e4⟩ := elAt_cells HX.out; have zx := blk_lt HX.out; have f0 := blk_frozen HX.out 0; have f1 := blk_frozen HX.out 1; have f2 := blk_frozen HX.out 2; have f3 := blk_frozen HX.out 3; have f4 := blk_frozen HX.out 4))
    | (go_at_call 47; have t_ := tok3; go_must (refine (halyardref01_Read8.calls _ p r 0 _ H3.out).mono ?_); go_must (rintro e w3 ⟨rfl, hd⟩; have HX_ := Aside0.mk (elAt_call HX.out (drawn_below hd)); have HB_ := Aside0.mk (below_step HB.out (drawn_below hd)); replace HX := HX_; replace HB := HB_; clear HX_ HB_ hd tok3 e0 e1 e2 e3 e4 zx f0 f1 f2 f3 f4; obtain ⟨e0, e1, e2, e3, e4⟩ := elAt_cells HX.out; have zx := blk_lt HX.out; have f0 := blk_frozen HX.out 0; have f1 := blk_frozen HX.out 1; have f2 := blk_frozen HX.out 2; have f3 := blk_frozen HX.out 3; have f4 := blk_frozen HX.out 4)))
  have hv := Aside0.mk (val4 HZ.out)
  have hr0 := adr_range r
  have hwr : IntKind.u32.wrap (adr r) = adr r := by rw [IntKind.wrap_u32]; omega
  go_cut [11] (fun v11 wx => ∃ B : Nat, v11 = .pointer (some ⟨B, 0, none⟩) ∧ Aside0 (ElAt wx B (subOf n c p r)) ∧ Aside0 (ElAt wx w.heap.size z24) ∧ Aside0 (Below w.heap.size w wx))
  case first =>
    have zw3 := blk_lt HX.out
    have zb3 := HB.out.size
    go_region_with (go_at_call 48; refine (halyardref01_Value.calls 9 _ _ _ hv.out).mono ?_; rintro e w4 ⟨rfl, hd⟩; have hb := Bl.of (drawn_below hd); (first | (have HX_ := Aside0.mk (elAt_bl HX.out hb); have HB_ := Aside0.mk (below_bl HB.out hb); have HY := tok4) | (have HX_ := Aside0.mk (elAt_bl (HX.out.alloc (Obj.cells #[Value.string { data := #[] }, Value.string { data := #[] }, Value.string { data := #[] }, Value.int IntKind.u32 0, Value.bool false] 24)) hb); have HB_ := Aside0.mk (below_bl (HB.out.alloc HB.out.size (Obj.cells #[Value.string { data := #[] }, Value.string { data := #[] }, Value.string { data := #[] }, Value.int IntKind.u32 0, Value.bool false] 24)) hb); have HY := Aside0.mk (elAt_bl (elAt_new w3 z24) hb); obtain ⟨y0, y1, y2, y3, y4⟩ := elAt_cells HY.out; have zy := blk_lt HY.out; have g0 := blk_frozen HY.out 0; have g1 := blk_frozen HY.out 1; have g2 := blk_frozen HY.out 2; have g3 := blk_frozen HY.out 3; have g4 := blk_frozen HY.out 4)); replace HX := HX_; replace HB := HB_; clear HX_ HB_ hd hb)
    all_goals
      go_wp2_with fail
      go_meet
      first
        | (have qy := HY.out; exact ⟨w3.heap.size, rfl, ⟨el_set5 (y := subOf n c p r) qy⟩, ⟨el_far5 HX.out (Nat.ne_of_lt zw3) _ _ _ _ _⟩, ⟨((((HB.out.setCell zb3 _).setCell zb3 _).setCell zb3 _).setCell zb3 _).setCell zb3 _⟩⟩)
        | exact ⟨w4.heap.size, rfl, ⟨elAt_new w4 (subOf n c p r)⟩, ⟨HX.out.alloc _⟩, ⟨HB.out.alloc HB.out.size _⟩⟩
  case rest =>
    obtain ⟨B, rfl, HY, HX', HB'⟩ := hcut
    rename World => wc
    clear HX HB e0 e1 e2 e3 e4 zx f0 f1 f2 f3 f4
    have HX := HX'
    have HB := HB'
    clear HX' HB'
    obtain ⟨y0, y1, y2, y3, y4⟩ := elAt_cells HY.out
    have hbv' := Aside0.mk (refBytes_val (subOf n c p r) hr0.1 hr0.2)
    have hbv := refBytes_val (subOf n c p r) hr0.1 hr0.2
    have HBB := Aside0.mk (show readK s = (z24, 7) ∨ (okS (subOf n c p r) = true ∧ encS (subOf n c p r) = s ∧ readK s = (subOf n c p r, 0)) from by
      by_cases hk : okS (subOf n c p r) = true
      · by_cases he : encS (subOf n c p r) = s
        · exact Or.inr ⟨hk, he, by rw [← he]; exact read_enc hk hr0.1 hr0.2⟩
        · refine Or.inl ?_
          by_cases h4 : bt r 4 ≤ 1
          · have hq : readK s = (subOf n c p r, 0) := by rw [HP.out]; unfold lastK; rw [if_pos ⟨HZ.out, h4, hk⟩]
            exact absurd (read_back (by omega) hq rfl).2.1 he
          · rw [HP.out]; unfold lastK; rw [if_neg (fun e => h4 e.2.1)]
      · refine Or.inl ?_
        rw [HP.out]; unfold lastK; rw [if_neg (fun e => hk e.2.2)])
    cases hk : okS (subOf n c p r) with
    | false =>
      have HK := Aside0.mk (show readK s = (z24, 7) from by
        rcases HBB.out with h | ⟨h, _⟩
        · exact h
        · rw [hk] at h; exact absurd h (by decide))
      have HBy := Aside0.mk (show halyardref28_Bytes.f 9 n c p (adr r) (bt r 4 == 1) = some (⟨#[]⟩, 2) from by
        have z := hbv
        unfold bytesK at z
        rw [if_neg (by rw [hk]; decide)] at z
        exact z)
      clear hk hbv
      go_wp2_with (go_at_call 11; go_must (refine (halyardref28_Bytes.calls 9 _ _ _ _ _ ⟨#[]⟩ 2 _ HBy.out).mono ?_); go_must (rintro e w5 ⟨rfl, hb⟩; have HX_ := Aside0.mk (elAt_call HX.out hb); have HY_ := Aside0.mk (elAt_call HY.out hb); have HB_ := Aside0.mk (below_step HB.out hb); replace HX := HX_; replace HB := HB_; replace HY := HY_; clear HX_ HY_ HB_ hb y0 y1 y2 y3 y4; obtain ⟨y0, y1, y2, y3, y4⟩ := elAt_cells HY.out; obtain ⟨e0, e1, e2, e3, e4⟩ := elAt_cells HX.out; have zx := blk_lt HX.out; have f0 := blk_frozen HX.out 0; have f1 := blk_frozen HX.out 1; have f2 := blk_frozen HX.out 2; have f3 := blk_frozen HX.out 3; have f4 := blk_frozen HX.out 4))
      refine bodyPost_ret (v := .tuple #[.agg #[.string ⟨#[]⟩, .string ⟨#[]⟩, .string ⟨#[]⟩, .int .u32 0, .bool false], .int .i64 7]) (by simp [results, Try.results13, go_sem, zx, e0, e1, e2, e3, e4]) rfl ⟨by rw [HK.out]; rfl, ?_⟩
      exact (by repeat (first | (with_reducible first | exact HB.out | apply below_alloc | apply pw_below_drewN | apply below_drew1 | apply below_drew) | (refine Below.setCell ?_ (by first | (simp; done) | (simp; omega)) _)))
    | true =>
      have HBy := Aside0.mk (show halyardref28_Bytes.f 9 n c p (adr r) (bt r 4 == 1) = some (encS (subOf n c p r), 0) from by
        have z := hbv
        unfold bytesK at z
        rw [if_pos hk] at z
        exact z)
      obtain ⟨tt, htt⟩ : ∃ tt, encS (subOf n c p r) = tt := ⟨_, rfl⟩
      rw [htt] at HBy HBB
      clear hk hbv
      by_cases he : tt = s
      · have HK := Aside0.mk (show readK s = (subOf n c p r, 0) from by
          rcases HBB.out with h | ⟨_, _, h⟩
          · exact absurd h (by
              rw [← he, ← htt]
              intro h
              have hk : okS (subOf n c p r) = true := by
                cases hk : okS (subOf n c p r) with
                | true => rfl
                | false =>
                  have := hbv'.out
                  unfold bytesK at this
                  rw [if_neg (by rw [hk]; decide)] at this
                  have hh := HBy.out
                  rw [show halyardref28_Bytes.f 9 n c p (adr r) (bt r 4 == 1) = _ from this] at hh
                  injection hh with hh
                  injection hh with _ h2
                  exact absurd h2 (by decide)
              rw [read_enc hk hr0.1 hr0.2] at h
              injection h with _ h2
              exact absurd h2 (by decide))
          · exact h)
        obtain ⟨s1, s2⟩ := str_eqs' he
        have s3 : (tt.toList != s.toList) = false := by simp [bne, s1]
        clear he htt
        go_wp2_with (go_at_call 11; go_must (refine (halyardref28_Bytes.calls 9 _ _ _ _ _ tt 0 _ HBy.out).mono ?_); go_must (rintro e w5 ⟨rfl, hb⟩; have HX_ := Aside0.mk (elAt_call HX.out hb); have HY_ := Aside0.mk (elAt_call HY.out hb); have HB_ := Aside0.mk (below_step HB.out hb); replace HX := HX_; replace HB := HB_; replace HY := HY_; clear HX_ HY_ HB_ hb y0 y1 y2 y3 y4; obtain ⟨y0, y1, y2, y3, y4⟩ := elAt_cells HY.out; obtain ⟨e0, e1, e2, e3, e4⟩ := elAt_cells HX.out; have zx := blk_lt HX.out; have f0 := blk_frozen HX.out 0; have f1 := blk_frozen HX.out 1; have f2 := blk_frozen HX.out 2; have f3 := blk_frozen HX.out 3; have f4 := blk_frozen HX.out 4))
        refine bodyPost_ret (v := .tuple #[.agg #[.string n, .string c, .string p, .int .u32 (adr r), .bool (bt r 4 == 1)], .int .i64 0]) (by simp [results, Try.results13, go_sem, zx, e0, e1, e2, e3, e4, subOf]) rfl ⟨by rw [HK.out]; rfl, ?_⟩
        exact (by repeat (first | (with_reducible first | exact HB.out | apply below_alloc | apply pw_below_drewN | apply below_drew1 | apply below_drew) | (refine Below.setCell ?_ (by first | (simp; done) | (simp; omega)) _)))
      · have HK := Aside0.mk (show readK s = (z24, 7) from by
          rcases HBB.out with h | ⟨_, h, _⟩
          · exact h
          · exact absurd h he)
        obtain ⟨s1, s2⟩ := str_nes' he
        have s3 : (tt.toList != s.toList) = true := by simp [bne, s1]
        clear he htt
        go_wp2_with (go_at_call 11; go_must (refine (halyardref28_Bytes.calls 9 _ _ _ _ _ tt 0 _ HBy.out).mono ?_); go_must (rintro e w5 ⟨rfl, hb⟩; have HX_ := Aside0.mk (elAt_call HX.out hb); have HY_ := Aside0.mk (elAt_call HY.out hb); have HB_ := Aside0.mk (below_step HB.out hb); replace HX := HX_; replace HB := HB_; replace HY := HY_; clear HX_ HY_ HB_ hb y0 y1 y2 y3 y4; obtain ⟨y0, y1, y2, y3, y4⟩ := elAt_cells HY.out; obtain ⟨e0, e1, e2, e3, e4⟩ := elAt_cells HX.out; have zx := blk_lt HX.out; have f0 := blk_frozen HX.out 0; have f1 := blk_frozen HX.out 1; have f2 := blk_frozen HX.out 2; have f3 := blk_frozen HX.out 3; have f4 := blk_frozen HX.out 4))
        refine bodyPost_ret (v := .tuple #[.agg #[.string ⟨#[]⟩, .string ⟨#[]⟩, .string ⟨#[]⟩, .int .u32 0, .bool false], .int .i64 7]) (by simp [results, Try.results13, go_sem, zx, e0, e1, e2, e3, e4]) rfl ⟨by rw [HK.out]; rfl, ?_⟩
        exact (by repeat (first | (with_reducible first | exact HB.out | apply below_alloc | apply pw_below_drewN | apply below_drew1 | apply below_drew) | (refine Below.setCell ?_ (by first | (simp; done) | (simp; omega)) _)))

theorem RefRead (s : ByteArray) (w : World) (hs : s.size ≤ 140737488351232) :
    Calls Try.prog 13 #[.string s] w (ReadPost s w) := by
  cases h1 : rd s with
  | none => exact RefRead1 s w hs h1
  | some a =>
    obtain ⟨n, r1⟩ := a
    cases h2 : rd r1 with
    | none => exact RefRead2 s w hs n r1 h1 h2
    | some a =>
      obtain ⟨c, r2⟩ := a
      cases h3 : rd r2 with
      | none => exact RefRead3 s w hs n r1 c r2 h1 h2 h3
      | some a =>
        obtain ⟨p, r⟩ := a
        by_cases h5 : r.size = 5
        · exact RefRead5 s w hs n r1 c r2 p r h1 h2 h3 h5
        · exact RefRead4 s w hs n r1 c r2 p r h1 h2 h3 h5
end Go.Proofs.YtmgpaccgjafjeaaHVR
