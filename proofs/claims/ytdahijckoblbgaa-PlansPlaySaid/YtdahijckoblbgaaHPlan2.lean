/- plans.Book: Del, Of, List, Copy. -/
import Derived.Test.YtdahijckoblbgaaHPlan
namespace Go.Proofs.YtdahijckoblbgaaHVP
open Go.RowKit Go.Maps Go.Sort Go.Shelf Go.Lib Go.Proofs.YtdahijckoblbgaaW.PrintWords Go.Proofs.YtdahijckoblbgaaHW Go.Proofs.YtdahijckoblbgaaHG Go.Proofs.Ytdahijckoblbgaa.PG27 Go.Proofs.YtdahijckoblbgaaHT
set_option linter.unusedVariables false
set_option linter.unusedSimpArgs false
set_option maxRecDepth 100000 in
set_option maxHeartbeats 2000000 in
theorem DelNone (g b : Nat) (ls : List El) (s : ByteArray) (w : World) (h : BookAt w g b ls) (hv : Valid ls) (hx : s.size ≤ 140737488351232) (hg : get nm ls s = none) :
    Calls Try.prog 18 #[.pointer (some ⟨g, 0, none⟩), .string s] w fun e w' => e = .returned (.int .i64 3) ∧ Below w.heap.size w w' := by
  have k0 := blk_cell h.1 0
  simp only [List.getElem?_toArray, List.getElem?_cons_zero, List.getElem?_cons_succ] at k0
  have zg := blk_lt h.1
  have zb := h.2.1.lt
  have HM := Aside0.mk h.2.1
  have HG := Aside0.mk h
  have HV := Aside0.mk hv
  have HB := Aside0.mk (Below.refl w.heap.size w)
  have huE := Try.underlying30
  have huB := Try.underlying82
  have huK := Try.underlying84
  have E := Aside0.mk (look_none hg)
  clear hg
  clear h hv
  go_enter Try.func18, Try.ntmps18
  go_wp2_with (first | (refine wp_lookup2 _ rfl _ _ 80 rfl 9 30 str_keyed Try.underlying80 ZP (Try.zeroValue30 _) b _ _ rfl (by repeat (first | exact HM.out | apply MapIs.alloc | apply MapIs.drewN | apply MapIs.drew)) _ (.string s.data.toList) rfl (keyS _ hx) trivial ?_; rw [E.out.1, E.out.2]))
  go_ret
  exact ⟨rfl, (by repeat (first | (with_reducible first | exact HB.out | apply below_alloc | apply pw_below_drewN | apply below_drew1 | apply below_drew) | (refine Below.setCell ?_ (by first | (simp; done) | (simp; omega)) _)))⟩
set_option maxRecDepth 100000 in
set_option maxHeartbeats 2000000 in
theorem DelYes (g b : Nat) (ls : List El) (s : ByteArray) (w : World) (h : BookAt w g b ls) (hv : Valid ls) (hx : s.size ≤ 140737488351232) (y : El) (hg : get nm ls s = some y) :
    Calls Try.prog 18 #[.pointer (some ⟨g, 0, none⟩), .string s] w fun e w' => e = .returned (.int .i64 0) ∧ BookAt w' g b (del nm ls s) ∧ KB b w w' := by
  have k0 := blk_cell h.1 0
  simp only [List.getElem?_toArray, List.getElem?_cons_zero, List.getElem?_cons_succ] at k0
  have zg := blk_lt h.1
  have zb := h.2.1.lt
  have HM := Aside0.mk h.2.1
  have HG := Aside0.mk h
  have HV := Aside0.mk hv
  have HB := Aside0.mk (Below.refl w.heap.size w)
  have huE := Try.underlying30
  have huB := Try.underlying82
  have huK := Try.underlying84
  have E := Aside0.mk (look_some hg)
  have HN := Aside0.mk hg
  clear hg
  clear h hv
  go_enter Try.func18, Try.ntmps18
  go_wp2_with (first | (refine wp_lookup2 _ rfl _ _ 80 rfl 9 30 str_keyed Try.underlying80 ZP (Try.zeroValue30 _) b _ _ rfl (by repeat (first | exact HM.out | apply MapIs.alloc | apply MapIs.drewN | apply MapIs.drew)) _ (.string s.data.toList) rfl (keyS _ hx) trivial ?_; rw [E.out.1, E.out.2]) | (refine wp_delete _ rfl _ _ 80 9 rfl 30 str_keyed Try.underlying80 ZP b _ (del nm ls s).length _ rfl (by repeat (first | exact HM.out | apply MapIs.alloc | apply MapIs.drewN | apply MapIs.drew)) _ (.string s.data.toList) rfl (keyS _ hx) trivial (by rw [E.out.2, if_pos rfl]; exact del_len HV.out.up HN.out) ?_; intro w9 hm9 ht9; have HK9 := Aside0.mk ((KB.below (b := b) (w := w) (by repeat (first | (with_reducible first | exact HB.out | apply below_alloc | apply pw_below_drewN | apply below_drew1 | apply below_drew) | (refine Below.setCell ?_ (by first | (simp; done) | (simp; omega)) _)))).trans (KB.turned ht9)); have HM9 := Aside0.mk hm9; clear ht9 hm9))
  go_ret
  have K1 := HK9.out
  exact ⟨rfl, ⟨K1.block HG.out.1 HG.out.2.2, HM9.out.congr (fun l hl => congrFun (mapOf_del HV.out.up s) l), HG.out.2.2⟩, K1⟩
/-- What is found, as it is handed back. -/
def ofV (ls : List El) (s : ByteArray) : Value := .tuple #[((get nm ls s).map encV).getD ZP, .bool (get nm ls s).isSome]

set_option maxRecDepth 100000 in
set_option maxHeartbeats 2000000 in
theorem OfNone (g b : Nat) (ls : List El) (s : ByteArray) (w : World) (h : BookAt w g b ls) (hv : Valid ls) (hx : s.size ≤ 140737488351232) (hg : get nm ls s = none) :
    Calls Try.prog 14 #[.pointer (some ⟨g, 0, none⟩), .string s] w fun e w' => e = .returned (.tuple #[.agg #[.string ⟨#[]⟩, .int .i64 0], .bool false]) ∧ Below w.heap.size w w' := by
  have k0 := blk_cell h.1 0
  simp only [List.getElem?_toArray, List.getElem?_cons_zero, List.getElem?_cons_succ] at k0
  have zg := blk_lt h.1
  have zb := h.2.1.lt
  have HM := Aside0.mk h.2.1
  have HG := Aside0.mk h
  have HV := Aside0.mk hv
  have HB := Aside0.mk (Below.refl w.heap.size w)
  have huE := Try.underlying30
  have huB := Try.underlying82
  have huK := Try.underlying84
  have E := Aside0.mk (look_none hg)
  clear hg
  clear h hv
  go_enter Try.func14, Try.ntmps14
  go_wp2_with (first | (refine wp_lookup2 _ rfl _ _ 80 rfl 9 30 str_keyed Try.underlying80 ZP (Try.zeroValue30 _) b _ _ rfl (by repeat (first | exact HM.out | apply MapIs.alloc | apply MapIs.drewN | apply MapIs.drew)) _ (.string s.data.toList) rfl (keyS _ hx) trivial ?_; rw [E.out.1, E.out.2]))
  exact bodyPost_ret (v := .tuple #[.agg #[.string ⟨#[]⟩, .int .i64 0], .bool false]) (by simp [results, Try.results14, go_sem]) rfl ⟨rfl, (by repeat (first | (with_reducible first | exact HB.out | apply below_alloc | apply pw_below_drewN | apply below_drew1 | apply below_drew) | (refine Below.setCell ?_ (by first | (simp; done) | (simp; omega)) _)))⟩
set_option maxRecDepth 100000 in
set_option maxHeartbeats 2000000 in
theorem OfSome (g b : Nat) (ls : List El) (s : ByteArray) (w : World) (h : BookAt w g b ls) (hv : Valid ls) (hx : s.size ≤ 140737488351232) (y : El) (hg : get nm ls s = some y) :
    Calls Try.prog 14 #[.pointer (some ⟨g, 0, none⟩), .string s] w fun e w' => e = .returned (.tuple #[.agg #[.string y.f0, .int .i64 y.f1], .bool true]) ∧ Below w.heap.size w w' := by
  have k0 := blk_cell h.1 0
  simp only [List.getElem?_toArray, List.getElem?_cons_zero, List.getElem?_cons_succ] at k0
  have zg := blk_lt h.1
  have zb := h.2.1.lt
  have HM := Aside0.mk h.2.1
  have HG := Aside0.mk h
  have HV := Aside0.mk hv
  have HB := Aside0.mk (Below.refl w.heap.size w)
  have huE := Try.underlying30
  have huB := Try.underlying82
  have huK := Try.underlying84
  have E := Aside0.mk (look_some hg)
  clear hg
  clear h hv
  go_enter Try.func14, Try.ntmps14
  go_wp2_with (first | (refine wp_lookup2 _ rfl _ _ 80 rfl 9 30 str_keyed Try.underlying80 ZP (Try.zeroValue30 _) b _ _ rfl (by repeat (first | exact HM.out | apply MapIs.alloc | apply MapIs.drewN | apply MapIs.drew)) _ (.string s.data.toList) rfl (keyS _ hx) trivial ?_; rw [E.out.1, E.out.2]))
  exact bodyPost_ret (v := .tuple #[.agg #[.string y.f0, .int .i64 y.f1], .bool true]) (by simp [results, Try.results14, go_sem]) rfl ⟨rfl, (by repeat (first | (with_reducible first | exact HB.out | apply below_alloc | apply pw_below_drewN | apply below_drew1 | apply below_drew) | (refine Below.setCell ?_ (by first | (simp; done) | (simp; omega)) _)))⟩
theorem Of (g b : Nat) (ls : List El) (s : ByteArray) (w : World) (h : BookAt w g b ls) (hv : Valid ls) (hx : s.size ≤ 140737488351232) :
    Calls Try.prog 14 #[.pointer (some ⟨g, 0, none⟩), .string s] w fun e w' => e = .returned (ofV ls s) ∧ Below w.heap.size w w' := by
  unfold ofV
  cases hg : get nm ls s with
  | none => exact OfNone g b ls s w h hv hx hg
  | some y => exact OfSome g b ls s w h hv hx y hg
/-- A new row that reads as ls. -/
def ListPost (ls : List El) (w : World) (e : Ending) (w' : World) : Prop := ∃ v, e = .returned v ∧ w'.ownsRow w.heap.size 30 2 v ls.length (ls.flatMap cel) ∧ Below w.heap.size w w'
set_option maxRecDepth 100000 in
set_option maxHeartbeats 2000000 in
theorem book_sorted (b : Nat) (ls : List El) (w : World) (hm : MapIs Try.prog 9 ZP w b (mapOf ls) ls.length) (hu : Up nm ls) (hl : ls.length ≤ 100000) :
    Calls Try.prog 44 #[.agg #[.map (some b)], .func (.func 45) #[] #[]] w (ListPost ls w) := by
  obtain ⟨D, ho, hs, hE, h1, h2⟩ := held_el hm
  have huB := Try.underlying82
  refine (callsIn_wide (n := 9)).1 ?_
  have hbl := ho.lt
  obtain ⟨W3, hW3⟩ : ∃ W3, ((w.alloc (.cells #[.map (some b)] 82)).alloc (.cells #[.func (.func 45) #[] #[]] 86)).alloc (.cells #[.map (some b)] 80) = W3 := ⟨_, rfl⟩
  have hz3 : W3.heap.size = w.heap.size + 3 := by rw [← hW3]; simp
  have hb3 : Below w.heap.size w W3 := by rw [← hW3]; exact (((Below.refl _ w).alloc (Nat.le_refl _) _).alloc (by simp) _).alloc (by simp; omega) _
  have qm : W3.heap[w.heap.size + 2]? = some (.cells #[.map (some b)] 80 (0, 0)) := by
    rw [← hW3]
    have z := World.alloc_heap_new ((w.alloc (.cells #[.map (some b)] 82)).alloc (.cells #[.func (.func 45) #[] #[]] 86)) (.cells #[.map (some b)] 80)
    simp only [World.size_alloc] at z
    exact z
  have qk : W3.heap[w.heap.size + 1]? = some (.cells #[.func (.func 45) #[] #[]] 86 (0, 0)) := by
    rw [← hW3]
    have z := World.alloc_heap_new (w.alloc (.cells #[.map (some b)] 82)) (.cells #[.func (.func 45) #[] #[]] 86)
    simp only [World.size_alloc] at z
    exact (Below.heap_alloc _ (.cells #[.map (some b)] 80) _ (blk_lt z)).trans z
  have hcm : W3.cell? ⟨w.heap.size + 2, 0, none⟩ = some (.map (some b)) := by simp [World.cell?, qm]
  have hck : W3.cell? ⟨w.heap.size + 1, 0, none⟩ = some (.func (.func 45) #[] #[]) := by simp [World.cell?, qk]
  have ho3 : W3.ownsMap Try.prog 9 RG b ls.length D := by
    obtain ⟨es, clock, hb, Ft, hs', hD⟩ := ho
    exact ⟨es, clock, (hb3.block b hbl).trans hb, Ft, hs', hD⟩
  have hseq := values_stops 5 (by omega) (w.heap.size + 2) b ls.length D hE W3 (by omega) hcm ho3
  have cV := fun W => values_in 8 (some b) W
  have hlen : ∀ xs, AllVals D xs → xs.length * 24 ≤ 140737488355328 := fun xs hx => by rw [allVals_len hu h1 h2 hx]; omega
  have cS := sorted_in 8 (by omega) _ _ (enters_of Try.func73 (by kernel_rfl) rfl) _ _ _ (by rw [hs]; unfold maxLen; omega) (by rw [hs]; omega) (w.heap.size + 1) W3 hck hseq hlen
  have hfK : Fence.wide.fn 60 := trivial
  have hfS : Fence.wide.fn 59 := trivial
  refine callsIn_of_wp Try.func44 rfl trivial ?_ rfl
  simp only [Try.ntmps44, List.size_toArray, List.length_cons, List.length_nil, Nat.reduceAdd, Nat.reduceSub, Array.replicate_succ, Array.replicate_zero, List.push_toArray, List.append_toArray, List.nil_append, List.cons_append]
  gi_wp2_with (first
    | (gi_at_call 60; refine (cV _).mono ?_; rintro e w' ⟨rfl, rfl⟩; rw [hW3])
    | (gi_at_call 59; refine cS.mono ?_; rintro e w' ⟨v, xs, ys, rfl, hS, hp, hq, hrow, hb⟩))
  go_ret
  have e := sorted_row hu h1 h2 hS hp hq
  subst e
  refine ⟨v, rfl, own_weaken hrow (by omega), hb3.trans (hb.mono (by omega))⟩

end Go.Proofs.YtdahijckoblbgaaHVP
