/- record.File: New, Of, At, Del, Len. -/
import Derived.Test.YtmgpaccgjafjeaaHRec
import Derived.StillTailTactics
import Derived.Outline
namespace Go.Proofs.YtmgpaccgjafjeaaHVR
open Go.RowKit Go.Maps Go.Sort Go.Shelf Go.Lib Go.Proofs.YtmgpaccgjafjeaaW.PrintWords Go.Proofs.YtmgpaccgjafjeaaHW Go.Proofs.YtmgpaccgjafjeaaHG Go.Proofs.Ytmgpaccgjafjeaa.PG28 Go.Proofs.YtmgpaccgjafjeaaHT
set_option linter.unusedVariables false
set_option linter.unusedSimpArgs false
structure Ok (most : Int) (ls : List El) : Prop where
  v : Valid ls
  len : (ls.length : Int) ≤ most
  m1 : 1 ≤ most
  m2 : most ≤ 256
theorem f_cells {w : World} {g b c : Nat} {most : Int} {ls : List El} (h : FileAt w g b c most ls) : w.cell? ⟨g, 0, none⟩ = some (.map (some b)) ∧ w.cell? ⟨g, 1, none⟩ = some (.map (some c)) ∧ w.cell? ⟨g, 2, none⟩ = some (.int .i64 most) := ⟨blk_cell h.1 0, blk_cell h.1 1, blk_cell h.1 2⟩
set_option maxRecDepth 100000 in
set_option maxHeartbeats 1000000 in
theorem NewNo (most : Int) (w : World) (h : most < 1 ∨ 256 < most) :
    Calls Try.prog 21 #[.int .i64 most] w fun e w' => e = .returned (.tuple #[.pointer none, .int .i64 2]) ∧ Below w.heap.size w w' := by
  have HB := Aside0.mk (Below.refl w.heap.size w)
  rcases h with h | h
  · go_enter Try.func21, Try.ntmps21
    go_wp2_with fail
    first | go_ret | go_ret2
    exact ⟨rfl, (by repeat (first | (with_reducible first | exact HB.out | apply below_alloc | apply pw_below_drewN | apply below_drew1 | apply below_drew) | (refine Below.setCell ?_ (by first | (simp; done) | (simp; omega)) _)))⟩
  · have h1 : ¬ most < 1 := by omega
    go_enter Try.func21, Try.ntmps21
    go_wp2_with fail
    first | go_ret | go_ret2
    exact ⟨rfl, (by repeat (first | (with_reducible first | exact HB.out | apply below_alloc | apply pw_below_drewN | apply below_drew1 | apply below_drew) | (refine Below.setCell ?_ (by first | (simp; done) | (simp; omega)) _)))⟩
def RNewPost (most : Int) (w : World) (e : Ending) (w' : World) : Prop := ∃ g b c, e = .returned (.tuple #[.pointer (some ⟨g, 0, none⟩), .int .i64 0]) ∧ FileAt w' g b c most [] ∧ w.heap.size ≤ g ∧ w.heap.size ≤ b ∧ w.heap.size ≤ c ∧ Below w.heap.size w w'
set_option maxRecDepth 100000 in
set_option maxHeartbeats 1000000 in
theorem NewYes (most : Int) (w : World) (h1 : 1 ≤ most) (h2 : most ≤ 256) :
    Calls Try.prog 21 #[.int .i64 most] w (RNewPost most w) := by
  have hmm := @run_makeMap Try.prog
  have n1 : ¬ most < 1 := by omega
  have n2 : ¬ 256 < most := by omega
  have huB := Try.underlying123
  have huK := Try.underlying125
  go_enter Try.func21, Try.ntmps21
  go_wp2_with fail
  first | go_ret | go_ret2
  refine ⟨w.heap.size + 1 + 1, w.heap.size, w.heap.size + 1, rfl, ⟨?_, ?_, ?_, by omega, by omega, by omega⟩, by omega, by omega, by omega, ?_⟩
  · have z := World.alloc_heap_new ((w.alloc (Obj.map #[] 0)).alloc (Obj.map #[] 0)) (Obj.cells #[Value.map (some w.heap.size), Value.map (some (w.heap.size + 1)), Value.int IntKind.i64 most] 125)
    simp only [World.size_alloc] at z
    exact z
  · exact (((MapIs.made Try.prog 9 ZS w).alloc _).alloc _).congr (M' := mapOf []) (fun l hl => by cases l <;> rfl)
  · have z := ((MapIs.made Try.prog 22 ZN (w.alloc (Obj.map #[] 0))).alloc (Obj.cells #[Value.map (some w.heap.size), Value.map (some (w.heap.size + 1)), Value.int IntKind.i64 most] 125)).congr (M' := mapAt []) (fun l hl => by unfold mapAt; split <;> rfl)
    simp only [World.size_alloc] at z
    exact z
  · exact (((Below.refl _ w).alloc (Nat.le_refl _) _).alloc (by simp) _).alloc (by simp; omega) _
set_option maxRecDepth 100000 in
set_option maxHeartbeats 1000000 in
theorem Len (g b c : Nat) (most : Int) (ls : List El) (w : World) (h : FileAt w g b c most ls) :
    Calls Try.prog 28 #[.pointer (some ⟨g, 0, none⟩)] w fun e w' => e = .returned (.int .i64 ls.length) ∧ Below w.heap.size w w' := by
  obtain ⟨k0, k1, k2⟩ := f_cells h
  have HM := Aside0.mk h.2.1
  have HB := Aside0.mk (Below.refl w.heap.size w)
  clear h
  go_enter Try.func28, Try.ntmps28
  go_wp2_with (refine wp_len _ rfl _ 120 rfl 9 24 Try.underlying120 ZS b _ _ rfl (by repeat (first | exact HM.out | apply MapIs.alloc | apply MapIs.drewN | apply MapIs.drew)) ?_)
  go_ret
  exact ⟨rfl, (by repeat (first | (with_reducible first | exact HB.out | apply below_alloc | apply pw_below_drewN | apply below_drew1 | apply below_drew) | (refine Below.setCell ?_ (by first | (simp; done) | (simp; omega)) _)))⟩
theorem FileAt.lt {w : World} {g b c : Nat} {most : Int} {ls : List El} (h : FileAt w g b c most ls) : b < w.heap.size ∧ c < w.heap.size := ⟨h.2.1.lt, h.2.2.1.lt⟩
/-- What Of answers. -/
def ofP (ls : List El) (s : ByteArray) : El × Bool := match get nm ls s with | some x => (x, true) | none => (z24, false)
theorem of_look {ls : List El} {s : ByteArray} {y : El} {is : Bool} (h : ofP ls s = (y, is)) : (mapOf ls (.string s.data.toList)).getD ZS = .agg #[.string y.f0, .string y.f1, .string y.f2, .int .u32 y.f3, .bool y.f4] ∧ (mapOf ls (.string s.data.toList)).isSome = is := by
  unfold ofP at h
  rw [mapOf_str]
  cases hg : get nm ls s with
  | some x => rw [hg] at h; cases h; exact ⟨rfl, rfl⟩
  | none => rw [hg] at h; cases h; exact ⟨rfl, rfl⟩
set_option maxRecDepth 100000 in
set_option maxHeartbeats 1000000 in
theorem Of {g b c : Nat} {most : Int} {ls : List El} {s : ByteArray} {y : El} {is : Bool} {w : World} (h : FileAt w g b c most ls) (hx : s.size ≤ 140737488351232) (hy : ofP ls s = (y, is)) :
    Calls Try.prog 26 #[.pointer (some ⟨g, 0, none⟩), .string s] w fun e w' => e = .returned (.tuple #[.agg #[.string y.f0, .string y.f1, .string y.f2, .int .u32 y.f3, .bool y.f4], .bool is]) ∧ Below w.heap.size w w' := by
  obtain ⟨k0, k1, k2⟩ := f_cells h
  have zg := blk_lt h.1
  have HM := Aside0.mk h.2.1
  have HN := Aside0.mk h.2.2.1
  have HG := Aside0.mk h
  have HB := Aside0.mk (Below.refl w.heap.size w)
  have huE := Try.underlying24
  have huB := Try.underlying123
  have huK := Try.underlying125
  have huN := Try.underlying129
  have E := Aside0.mk (of_look hy)
  clear h hy
  go_enter Try.func26, Try.ntmps26
  go_wp2_with (first | (refine wp_lookup2 _ rfl _ _ 120 rfl 9 24 str_keyed Try.underlying120 ZS (Try.zeroValue24 _) b _ _ rfl (by repeat (first | exact HM.out | apply MapIs.alloc | apply MapIs.drewN | apply MapIs.drew)) _ (.string s.data.toList) rfl (keyS _ hx) trivial ?_; rw [E.out.1, E.out.2]))
  exact bodyPost_ret (v := .tuple #[.agg #[.string y.f0, .string y.f1, .string y.f2, .int .u32 y.f3, .bool y.f4], .bool is]) (by simp [results, Try.results26, go_sem]) rfl ⟨rfl, (by repeat (first | (with_reducible first | exact HB.out | apply below_alloc | apply pw_below_drewN | apply below_drew1 | apply below_drew) | (refine Below.setCell ?_ (by first | (simp; done) | (simp; omega)) _)))⟩
/-- What At answers. -/
def atP (ls : List El) (a : Int) : El × Bool := match atA ls a with | some x => (x, true) | none => (z24, false)
theorem at_of {ls : List El} (hv : Valid ls) (a : Int) : ofP ls (whoV ls a) = atP ls a := by
  unfold atP ofP whoV
  cases h : atA ls a with
  | some x =>
    obtain ⟨h1, h2⟩ := atA_some h
    show (match get nm ls x.f0 with | some x => (x, true) | none => (z24, false)) = _
    rw [show get nm ls x.f0 = some x from get_of_mem hv.up h1]
  | none =>
    show (match get nm ls ⟨#[]⟩ with | some x => (x, true) | none => (z24, false)) = _
    have : get nm ls ⟨#[]⟩ = none := by
      cases hg : get nm ls ⟨#[]⟩ with
      | none => rfl
      | some y =>
        obtain ⟨h1, h2⟩ := get_some hg
        have := hv.ok y h1
        unfold okS at this
        have h3 : y.f0.size = 0 := by rw [show y.f0 = _ from h2]; rfl
        simp [h3] at this
    rw [this]
theorem who_size {ls : List El} (hv : Valid ls) (a : Int) : (whoV ls a).size ≤ 140737488351232 := by
  unfold whoV
  cases h : atA ls a with
  | none => exact Nat.zero_le _
  | some x =>
    have := hv.ok x (atA_some h).1
    unfold okS at this
    simp at this
    show x.f0.size ≤ _
    omega
theorem field_name (s : ByteArray) (W : World) : (Instr.field 129 (.agg #[.string s]) 0).run Try.prog W = .ok (.string s) W := by kernel_rfl
set_option maxRecDepth 100000 in
set_option maxHeartbeats 1000000 in
theorem At {g b c : Nat} {most : Int} {ls : List El} {a : Int} {y : El} {is : Bool} {w : World} (h : FileAt w g b c most ls) (hv : Valid ls) (a0 : 0 ≤ a) (a1 : a < 4294967296) (hy : atP ls a = (y, is)) :
    Calls Try.prog 24 #[.pointer (some ⟨g, 0, none⟩), .int .u32 a] w fun e w' => e = .returned (.tuple #[.agg #[.string y.f0, .string y.f1, .string y.f2, .int .u32 y.f3, .bool y.f4], .bool is]) ∧ Below w.heap.size w w' := by
  obtain ⟨k0, k1, k2⟩ := f_cells h
  have zg := blk_lt h.1
  have HM := Aside0.mk h.2.1
  have HN := Aside0.mk h.2.2.1
  have HG := Aside0.mk h
  have HB := Aside0.mk (Below.refl w.heap.size w)
  have huE := Try.underlying24
  have huB := Try.underlying123
  have huK := Try.underlying125
  have huN := Try.underlying129
  have E := Aside0.mk (who_any ls a).1
  have HY := Aside0.mk (show ofP ls (whoV ls a) = (y, is) by rw [at_of hv, hy])
  have HZ := Aside0.mk (who_size hv a)
  have hfn := fun W => field_name (whoV ls a) W
  clear h hy hv
  go_enter Try.func24, Try.ntmps24
  go_wp2_with (first
    | (refine wp_lookup1 _ rfl _ _ 121 rfl 22 129 law32 Try.underlying121 ZN (zeroName _) c _ _ rfl (by repeat (first | exact HN.out | apply MapIs.alloc | apply MapIs.drewN | apply MapIs.drew)) _ (.int .u32 a) rfl (key32 a a0 a1) trivial ?_; rw [E.out])
    | (go_at_call 26; go_must (refine (Of (HG.out.below (by repeat (first | (with_reducible first | exact HB.out | apply below_alloc | apply pw_below_drewN | apply below_drew1 | apply below_drew) | (refine Below.setCell ?_ (by first | (simp; done) | (simp; omega)) _)))) HZ.out HY.out).mono ?_); go_must (rintro e w1 ⟨rfl, hb1⟩; have HX := Aside0.mk (elAt_call (elAt_new w z24) hb1); have zx := blk_lt HX.out; obtain ⟨e0, e1, e2, e3, e4⟩ := elAt_cells HX.out; have f0 := blk_frozen HX.out 0; have f1 := blk_frozen HX.out 1; have f2 := blk_frozen HX.out 2; have f3 := blk_frozen HX.out 3; have f4 := blk_frozen HX.out 4; have HB_ := Aside0.mk (below_step (by repeat (first | (with_reducible first | exact HB.out | apply below_alloc | apply pw_below_drewN | apply below_drew1 | apply below_drew) | (refine Below.setCell ?_ (by first | (simp; done) | (simp; omega)) _))) hb1); replace HB := HB_; clear HB_ hb1; have zz := HB.out.size)))
  refine bodyPost_ret (v := .tuple #[.agg #[.string y.f0, .string y.f1, .string y.f2, .int .u32 y.f3, .bool y.f4], .bool is]) (by simp [results, Try.results24, go_sem, zx, e0, e1, e2, e3, e4]) rfl ⟨rfl, ?_⟩
  exact (by repeat (first | (with_reducible first | exact HB.out | apply below_alloc | apply pw_below_drewN | apply below_drew1 | apply below_drew) | (refine Below.setCell ?_ (by first | (simp; done) | (simp; omega)) _)))
theorem del_mono {ls : List El} (hv : Valid ls) {most : Int} (hl : (ls.length : Int) ≤ most) (s : ByteArray) : ((del nm ls s).length : Int) ≤ most := by
  have : (del nm ls s).length ≤ ls.length := List.length_filter_le _ _
  omega
set_option maxRecDepth 100000 in
set_option maxHeartbeats 1000000 in
theorem DelNone {g b c : Nat} {most : Int} {ls : List El} {s : ByteArray} {w : World} (h : FileAt w g b c most ls) (hx : s.size ≤ 140737488351232) (hg : get nm ls s = none) :
    Calls Try.prog 25 #[.pointer (some ⟨g, 0, none⟩), .string s] w fun e w' => e = .returned (.int .i64 3) ∧ Below w.heap.size w w' := by
  obtain ⟨k0, k1, k2⟩ := f_cells h
  have zg := blk_lt h.1
  have HM := Aside0.mk h.2.1
  have HN := Aside0.mk h.2.2.1
  have HG := Aside0.mk h
  have HB := Aside0.mk (Below.refl w.heap.size w)
  have huE := Try.underlying24
  have huB := Try.underlying123
  have huK := Try.underlying125
  have huN := Try.underlying129
  have E := Aside0.mk (look_none hg)
  clear h hg
  go_enter Try.func25, Try.ntmps25
  go_wp2_with (first | (refine wp_lookup2 _ rfl _ _ 120 rfl 9 24 str_keyed Try.underlying120 ZS (Try.zeroValue24 _) b _ _ rfl (by repeat (first | exact HM.out | apply MapIs.alloc | apply MapIs.drewN | apply MapIs.drew)) _ (.string s.data.toList) rfl (keyS _ hx) trivial ?_; rw [E.out.1, E.out.2]))
  go_ret
  exact ⟨rfl, (by repeat (first | (with_reducible first | exact HB.out | apply below_alloc | apply pw_below_drewN | apply below_drew1 | apply below_drew) | (refine Below.setCell ?_ (by first | (simp; done) | (simp; omega)) _)))⟩
set_option maxRecDepth 100000 in
set_option maxHeartbeats 2000000 in
theorem DelYes {g b c : Nat} {most : Int} {ls : List El} {s : ByteArray} {y : El} {w : World} (h : FileAt w g b c most ls) (hv : Valid ls) (hx : s.size ≤ 140737488351232) (hg : get nm ls s = some y) :
    Calls Try.prog 25 #[.pointer (some ⟨g, 0, none⟩), .string s] w fun e w' => e = .returned (.int .i64 0) ∧ FileAt w' g b c most (del nm ls s) ∧ K2 b c w w' := by
  obtain ⟨k0, k1, k2⟩ := f_cells h
  have zg := blk_lt h.1
  have HM := Aside0.mk h.2.1
  have HN := Aside0.mk h.2.2.1
  have HG := Aside0.mk h
  have HB := Aside0.mk (Below.refl w.heap.size w)
  have huE := Try.underlying24
  have huB := Try.underlying123
  have huK := Try.underlying125
  have huN := Try.underlying129
  have E := Aside0.mk (look_some hg)
  have HV := Aside0.mk hv
  have HY := Aside0.mk hg
  obtain ⟨y0, y1⟩ := hv.rg y (get_some hg).1
  have zb := h.lt.1
  have zc := h.lt.2
  have hbc := h.2.2.2.2.2
  have HBC := Aside0.mk hbc
  have hgb := h.2.2.2.1
  have hgc := h.2.2.2.2.1
  have EC := Aside0.mk (show (mapAt ls (.int .u32 y.f3)).isSome = true by rw [(who_any ls y.f3).2, atA_mem hv.ad (get_some hg).1]; rfl)
  clear h hg hv
  go_enter Try.func25, Try.ntmps25
  go_wp2_with (first
    | (refine wp_lookup2 _ rfl _ _ 120 rfl 9 24 str_keyed Try.underlying120 ZS (Try.zeroValue24 _) b _ _ rfl (by repeat (first | exact HM.out | apply MapIs.alloc | apply MapIs.drewN | apply MapIs.drew)) _ (.string s.data.toList) rfl (keyS _ hx) trivial ?_; rw [E.out.1, E.out.2])
    | (refine wp_delete _ rfl _ _ 120 9 rfl 24 str_keyed Try.underlying120 ZS b _ (del nm ls s).length _ rfl (by repeat (first | exact HM.out | apply MapIs.alloc | apply MapIs.drewN | apply MapIs.drew)) _ (.string s.data.toList) rfl (keyS _ hx) trivial (by rw [E.out.2, if_pos rfl]; exact del_len HV.out.up HY.out) ?_; intro w9 hm9 ht9; have HK9 := Aside0.mk ((KB.below (b := b) (w := w) (by repeat (first | (with_reducible first | exact HB.out | apply below_alloc | apply pw_below_drewN | apply below_drew1 | apply below_drew) | (refine Below.setCell ?_ (by first | (simp; done) | (simp; omega)) _)))).trans (KB.turned ht9)); have HM9 := Aside0.mk hm9; have HT9 := Aside0.mk (KB.turned ht9); clear ht9 hm9; have HX9 := Aside0.mk (show ElAt w9 w.heap.size y from KB.block HT9.out (elAt_new w y) (Nat.ne_of_gt zb)); have HG9 := Aside0.mk (HK9.out.block HG.out.1 hgb); have HN9 := Aside0.mk (HN.out.heap ((HK9.out).2.2.2.2 c zc (Ne.symm hbc))); have j0 := blk_cell HG9.out 0; have j1 := blk_cell HG9.out 1; obtain ⟨x0, x1, x2, x3, x4⟩ := elAt_cells HX9.out; simp only [List.getElem?_toArray, List.getElem?_cons_zero, List.getElem?_cons_succ] at j0 j1))
  go_still_tail 7, (by kernel_rfl)
  (refine wp_delete _ rfl _ _ 121 22 rfl 129 law32 Try.underlying121 ZN c _ (del nm ls s).length _ rfl (by repeat (first | exact HN9.out | apply MapIs.alloc | apply MapIs.drewN | apply MapIs.drew)) _ (.int .u32 y.f3) rfl (key32 y.f3 y0 y1) trivial (by rw [EC.out, if_pos rfl]; exact del_len HV.out.up HY.out) ?_; intro w10 hm10 ht10; have HT10 := Aside0.mk (KB.turned ht10); have HM10 := Aside0.mk hm10; clear ht10 hm10)
  go_wp2_with fail
  go_ret
  have KA : KB c w9 w10 := by have z := HT10.out; exact z
  refine ⟨rfl, ⟨KA.block HG9.out hgc, ?_, ?_, hgb, hgc, hbc⟩, (K2.left HK9.out).trans (K2.right KA)⟩
  · exact (HM9.out.heap (KA.2.2.2.2 b HM9.out.lt hbc)).congr (fun l hl => congrFun (mapOf_del HV.out.up s) l)
  · exact HM10.out.congr (fun l hl => congrFun (mapAt_del HV.out HY.out) l)
end Go.Proofs.YtmgpaccgjafjeaaHVR
