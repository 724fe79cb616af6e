/- record.File: List, Copy; a file that is not there. -/
import Derived.Test.YtmgpaccgjafjeaaHRec2
import Derived.Deep.RegionHeld3
namespace Go.Proofs.YtmgpaccgjafjeaaHVR
open Go.RowKit Go.Maps Go.Sort Go.Shelf Go.Lib Go.Proofs.YtmgpaccgjafjeaaW.PrintWords Go.Proofs.YtmgpaccgjafjeaaHW Go.Proofs.YtmgpaccgjafjeaaHG Go.Proofs.Ytmgpaccgjafjeaa.PG28 Go.Proofs.YtmgpaccgjafjeaaHT
set_option linter.unusedVariables false
set_option linter.unusedSimpArgs false
/-- A new row that reads as ls. -/
def ListPost (ls : List El) (w : World) (e : Ending) (w' : World) : Prop := ∃ v, e = .returned v ∧ w'.ownsRow w.heap.size 24 5 v ls.length (ls.flatMap cel) ∧ Below w.heap.size w w'
set_option maxRecDepth 100000 in
set_option maxHeartbeats 2000000 in
theorem rec_sorted (b : Nat) (ls : List El) (w : World) (hm : MapIs Try.prog 9 ZS w b (mapOf ls) ls.length) (hu : Up nm ls) (hl : ls.length ≤ 100000) :
    Calls Try.prog 60 #[.map (some b), .func (.func 61) #[] #[]] w (ListPost ls w) := by
  obtain ⟨D, ho, hs, hE, h1, h2⟩ := held_el hm
  refine (callsIn_wide (n := 9)).1 ?_
  have hbl := ho.lt
  obtain ⟨W3, hW3⟩ : ∃ W3, (w.alloc (.cells #[.func (.func 61) #[] #[]] 127)).alloc (.cells #[.map (some b)] 120) = W3 := ⟨_, rfl⟩
  have hz3 : W3.heap.size = w.heap.size + 2 := by rw [← hW3]; simp
  have hb3 : Below w.heap.size w W3 := by rw [← hW3]; exact ((Below.refl _ w).alloc (Nat.le_refl _) _).alloc (by simp) _
  have qm : W3.heap[w.heap.size + 1]? = some (.cells #[.map (some b)] 120 (0, 0)) := by
    rw [← hW3]
    have z := World.alloc_heap_new (w.alloc (.cells #[.func (.func 61) #[] #[]] 127)) (.cells #[.map (some b)] 120)
    simp only [World.size_alloc] at z
    exact z
  have qk : W3.heap[w.heap.size]? = some (.cells #[.func (.func 61) #[] #[]] 127 (0, 0)) := by
    rw [← hW3]
    have z := World.alloc_heap_new w (.cells #[.func (.func 61) #[] #[]] 127)
    exact (Below.heap_alloc _ (.cells #[.map (some b)] 120) _ (blk_lt z)).trans z
  have hcm : W3.cell? ⟨w.heap.size + 1, 0, none⟩ = some (.map (some b)) := by simp [World.cell?, qm]
  have hck : W3.cell? ⟨w.heap.size, 0, none⟩ = some (.func (.func 61) #[] #[]) := by simp [World.cell?, qk]
  have ho3 : W3.ownsMap Try.prog 9 RG b ls.length D := by
    obtain ⟨es, clock, hb, Ft, hs', hD⟩ := ho
    exact ⟨es, clock, (hb3.block b hbl).trans hb, Ft, hs', hD⟩
  have hseq := values_stops 5 (by omega) (w.heap.size + 1) b ls.length D hE W3 (by omega) hcm ho3
  have cV := fun W => values_in 8 (some b) W
  have hlen : ∀ xs, AllVals D xs → xs.length * 56 ≤ 140737488355328 := fun xs hx => by rw [allVals_len hu h1 h2 hx]; omega
  have cS := sorted_in 8 (by omega) _ _ (enters_of Try.func98 (by kernel_rfl) rfl) _ _ _ (by rw [hs]; unfold maxLen; omega) (by rw [hs]; omega) w.heap.size W3 hck hseq hlen
  have hfK : Fence.wide.fn 87 := trivial
  have hfS : Fence.wide.fn 86 := trivial
  refine callsIn_of_wp Try.func60 rfl trivial ?_ rfl
  simp only [Try.ntmps60, List.size_toArray, List.length_cons, List.length_nil, Nat.reduceAdd, Nat.reduceSub, Array.replicate_succ, Array.replicate_zero, List.push_toArray, List.append_toArray, List.nil_append, List.cons_append]
  gi_wp2_with (first
    | (gi_at_call 87; refine (cV _).mono ?_; rintro e w' ⟨rfl, rfl⟩; rw [hW3])
    | (gi_at_call 86; refine cS.mono ?_; rintro e w' ⟨v, xs, ys, rfl, hS, hp, hq, hrow, hb⟩))
  go_ret
  have e := sorted_row hu h1 h2 hS hp hq
  subst e
  refine ⟨v, rfl, own_weaken hrow (by omega), hb3.trans (hb.mono (by omega))⟩
set_option maxRecDepth 100000 in
set_option maxHeartbeats 2000000 in
theorem List_ {g b c : Nat} {most : Int} {ls : List El} {w : World} (h : FileAt w g b c most ls) (hv : Ok most ls) :
    Calls Try.prog 22 #[.pointer (some ⟨g, 0, none⟩)] w (ListPost ls w) := by
  obtain ⟨k0, k1, k2⟩ := f_cells h
  have hl := hv.len
  have hm := hv.m2
  have cS := rec_sorted b ls w h.2.1 hv.v.up (by omega)
  have huB := Try.underlying123
  have huK := Try.underlying125
  have HS := Aside0.mk cS
  clear h hv cS
  go_enter Try.func22, Try.ntmps22
  go_wp2_with (go_at_call 60; refine HS.out.mono ?_; rintro e w1 ⟨v, rfl, hrow, hb⟩; have HR := Aside0.mk hrow; have HB := Aside0.mk hb; clear hrow hb)
  go_ret
  exact ⟨v, rfl, HR.out, HB.out⟩
theorem cloneBy {b c : Nat} {M : Lit → Option Value} {w : World} (h : MapIs Try.prog 9 ZS w b M c) :
    Calls Try.prog 63 #[.map (some b)] w fun e w' => e = .returned (.map (some w.heap.size)) ∧ MapIs Try.prog 9 ZS w' w.heap.size M c ∧ Below w.heap.size w w' := by
  obtain ⟨D, ho, hs, hM⟩ := h
  exact (AnyW.maps_Clone_owns Try.cloneSub 9 RG b c D w ho).mono fun e w' ⟨he, h1, _, h3⟩ => ⟨he, ⟨D, h1, hs, hM⟩, h3⟩
theorem cloneAt {b c : Nat} {M : Lit → Option Value} {w : World} (h : MapIs Try.prog 22 ZN w b M c) :
    Calls Try.prog 64 #[.map (some b)] w fun e w' => e = .returned (.map (some w.heap.size)) ∧ MapIs Try.prog 22 ZN w' w.heap.size M c ∧ Below w.heap.size w w' := by
  obtain ⟨D, ho, hs, hM⟩ := h
  exact (AnyW.maps_Clone_owns Try.cloneAt 22 RG b c D w ho).mono fun e w' ⟨he, h1, _, h3⟩ => ⟨he, ⟨D, h1, hs, hM⟩, h3⟩
/-- What was there stands, in a form that no draw turns. -/
def Bl (w w' : World) : Prop := w'.os = w.os ∧ w'.tape = w.tape ∧ w'.output = w.output ∧ w.heap.size ≤ w'.heap.size ∧ ∀ j, j < w.heap.size → w'.heap[j]? = w.heap[j]?
theorem Bl.of {w w' : World} (h : Below w.heap.size w w') : Bl w w' := ⟨h.os, h.tape, h.output, h.size, h.block⟩
theorem Bl.below {w w' : World} (h : Bl w w') : Below w.heap.size w w' := ⟨h.1, h.2.1, h.2.2.1, h.2.2.2.1, h.2.2.2.2⟩
theorem FileAt.bl {w w' : World} {g b c : Nat} {most : Int} {ls : List El} (h : FileAt w g b c most ls) (hb : Bl w w') : FileAt w' g b c most ls := h.below hb.below
theorem below_bl {w0 w w' : World} (h : Below w0.heap.size w0 w) (hb : Bl w w') : Below w0.heap.size w0 w' := below_step h hb.below
def CopyPost (most : Int) (ls : List El) (w : World) (e : Ending) (w' : World) : Prop := ∃ g b c, e = .returned (.pointer (some ⟨g, 0, none⟩)) ∧ FileAt w' g b c most ls ∧ w.heap.size ≤ g ∧ w.heap.size ≤ b ∧ w.heap.size ≤ c ∧ Below w.heap.size w w'
set_option maxRecDepth 100000 in
set_option maxHeartbeats 2000000 in
theorem Copy {g b c : Nat} {most : Int} {ls : List El} {w : World} (h : FileAt w g b c most ls) :
    Calls Try.prog 30 #[.pointer (some ⟨g, 0, none⟩)] w (CopyPost most ls w) := by
  have hS := f_cells h
  obtain ⟨k0, k1, k2⟩ := f_cells h
  have zg := blk_lt h.1
  have HG := Aside0.mk h
  have HB := Aside0.mk (Below.refl w.heap.size w)
  have huB := Try.underlying123
  have huK := Try.underlying125
  clear h
  go_enter Try.func30, Try.ntmps30
  go_upto_region 3 with fail
  go_region_held3 (fun w' => w'.cell? ⟨g, 0, none⟩ = some (.map (some b)) ∧ w'.cell? ⟨g, 1, none⟩ = some (.map (some c)) ∧ w'.cell? ⟨g, 2, none⟩ = some (.int .i64 most)) (first | (with_reducible exact hS2) | (with_reducible exact hS1) | (with_reducible exact hS) | go_keep)
    (first
      | (go_at_call 63; (refine (cloneBy (c := ls.length) (M := mapOf ls) ?_).mono ?_; exact HG.out.2.1); (rintro e w1 ⟨rfl, hm, hb'⟩; have hb := Bl.of hb'; have HM1 := Aside0.mk hm; have ZM1 := Aside0.mk (show w.heap.size < w1.heap.size from hm.lt); (try (have HM2_ := Aside0.mk (MapIs.heap HM2.out (hb.2.2.2.2 _ HM2.out.lt)); replace HM2 := HM2_; clear HM2_)); replace HG := Aside0.mk (HG.out.bl hb); replace HB := Aside0.mk (below_bl HB.out hb); have hS1 := f_cells HG.out); clear hb hb' hm)
      | (go_at_call 64; (refine (cloneAt (c := ls.length) (M := mapAt ls) ?_).mono ?_; exact HG.out.2.2.1); (rintro e w2 ⟨rfl, hm, hb'⟩; have hb := Bl.of hb'; have HM2 := Aside0.mk hm; have ZM2 := Aside0.mk (show w1.heap.size < w2.heap.size from hm.lt); (try (have HM1_ := Aside0.mk (MapIs.heap HM1.out (hb.2.2.2.2 _ HM1.out.lt)); replace HM1 := HM1_; clear HM1_)); replace HG := Aside0.mk (HG.out.bl hb); replace HB := Aside0.mk (below_bl HB.out hb); have hS2 := f_cells HG.out); clear hb hb' hm))
  all_goals
    go_wp2_with fail
    go_ret
    have z1 := ZM1.out
    have z2 := ZM2.out
    refine ⟨w2.heap.size, w.heap.size, w1.heap.size, rfl, ⟨heap_alloc_new w2 _, ?_, ?_, ?_, ?_, ?_⟩, ?_, Nat.le_refl _, ?_, ?_⟩
    · exact HM1.out.alloc _
    · exact HM2.out.alloc _
    · omega
    · omega
    · omega
    · omega
    · omega
    · have hb := HB.out
      exact hb.alloc hb.size _
def NilRet (v : Value) (w : World) (e : Ending) (w' : World) : Prop := e = .returned v ∧ Below w.heap.size w w'
set_option maxRecDepth 100000 in
set_option maxHeartbeats 1000000 in
theorem PutNil (x : El) (w : World) : Calls Try.prog 23 #[.pointer none, .agg #[.string x.f0, .string x.f1, .string x.f2, .int .u32 x.f3, .bool x.f4]] w (NilRet (.int .i64 1) w) := by
  have HB := Aside0.mk (Below.refl w.heap.size w)
  have huE := Try.underlying24
  go_enter Try.func23, Try.ntmps23
  go_wp2_with fail
  repeat (go_quiet (fail); try go_wp2)
  first | go_ret | go_ret2
  exact ⟨rfl, (by repeat (first | (with_reducible first | exact HB.out | apply below_alloc | apply pw_below_drewN | apply below_drew1 | apply below_drew) | (refine Below.setCell ?_ (by first | (simp; done) | (simp; omega)) _)))⟩
set_option maxRecDepth 100000 in
set_option maxHeartbeats 1000000 in
theorem DelNil (s : ByteArray) (w : World) : Calls Try.prog 25 #[.pointer none, .string s] w (NilRet (.int .i64 1) w) := by
  have HB := Aside0.mk (Below.refl w.heap.size w)
  have huE := Try.underlying24
  go_enter Try.func25, Try.ntmps25
  go_wp2_with fail
  repeat (go_quiet (fail); try go_wp2)
  first | go_ret | go_ret2
  exact ⟨rfl, (by repeat (first | (with_reducible first | exact HB.out | apply below_alloc | apply pw_below_drewN | apply below_drew1 | apply below_drew) | (refine Below.setCell ?_ (by first | (simp; done) | (simp; omega)) _)))⟩
set_option maxRecDepth 100000 in
set_option maxHeartbeats 1000000 in
theorem OfNil (s : ByteArray) (w : World) : Calls Try.prog 26 #[.pointer none, .string s] w (NilRet (.tuple #[.agg #[.string ⟨#[]⟩, .string ⟨#[]⟩, .string ⟨#[]⟩, .int .u32 0, .bool false], .bool false]) w) := by
  have HB := Aside0.mk (Below.refl w.heap.size w)
  have huE := Try.underlying24
  go_enter Try.func26, Try.ntmps26
  go_wp2_with fail
  repeat (go_quiet (fail); try go_wp2)
  refine bodyPost_ret (v := .tuple #[.agg #[.string ⟨#[]⟩, .string ⟨#[]⟩, .string ⟨#[]⟩, .int .u32 0, .bool false], .bool false]) (by simp [results, Try.results26, go_sem]) rfl ?_
  exact ⟨rfl, (by repeat (first | (with_reducible first | exact HB.out | apply below_alloc | apply pw_below_drewN | apply below_drew1 | apply below_drew) | (refine Below.setCell ?_ (by first | (simp; done) | (simp; omega)) _)))⟩
set_option maxRecDepth 100000 in
set_option maxHeartbeats 1000000 in
theorem AtNil (a : Int) (w : World) : Calls Try.prog 24 #[.pointer none, .int .u32 a] w (NilRet (.tuple #[.agg #[.string ⟨#[]⟩, .string ⟨#[]⟩, .string ⟨#[]⟩, .int .u32 0, .bool false], .bool false]) w) := by
  have HB := Aside0.mk (Below.refl w.heap.size w)
  have huE := Try.underlying24
  go_enter Try.func24, Try.ntmps24
  go_wp2_with fail
  repeat (go_quiet (fail); try go_wp2)
  refine bodyPost_ret (v := .tuple #[.agg #[.string ⟨#[]⟩, .string ⟨#[]⟩, .string ⟨#[]⟩, .int .u32 0, .bool false], .bool false]) (by simp [results, Try.results24, go_sem]) rfl ?_
  exact ⟨rfl, (by repeat (first | (with_reducible first | exact HB.out | apply below_alloc | apply pw_below_drewN | apply below_drew1 | apply below_drew) | (refine Below.setCell ?_ (by first | (simp; done) | (simp; omega)) _)))⟩
set_option maxRecDepth 100000 in
set_option maxHeartbeats 1000000 in
theorem ListNil (w : World) : Calls Try.prog 22 #[.pointer none] w (NilRet (.slice none 0 0) w) := by
  have HB := Aside0.mk (Below.refl w.heap.size w)
  have huE := Try.underlying24
  go_enter Try.func22, Try.ntmps22
  go_wp2_with fail
  repeat (go_quiet (fail); try go_wp2)
  first | go_ret | go_ret2
  exact ⟨rfl, (by repeat (first | (with_reducible first | exact HB.out | apply below_alloc | apply pw_below_drewN | apply below_drew1 | apply below_drew) | (refine Below.setCell ?_ (by first | (simp; done) | (simp; omega)) _)))⟩
set_option maxRecDepth 100000 in
set_option maxHeartbeats 1000000 in
theorem LenNil (w : World) : Calls Try.prog 28 #[.pointer none] w (NilRet (.int .i64 0) w) := by
  have HB := Aside0.mk (Below.refl w.heap.size w)
  have huE := Try.underlying24
  go_enter Try.func28, Try.ntmps28
  go_wp2_with fail
  repeat (go_quiet (fail); try go_wp2)
  first | go_ret | go_ret2
  exact ⟨rfl, (by repeat (first | (with_reducible first | exact HB.out | apply below_alloc | apply pw_below_drewN | apply below_drew1 | apply below_drew) | (refine Below.setCell ?_ (by first | (simp; done) | (simp; omega)) _)))⟩
set_option maxRecDepth 100000 in
set_option maxHeartbeats 1000000 in
theorem CopyNil (w : World) : Calls Try.prog 30 #[.pointer none] w (NilRet (.pointer none) w) := by
  have HB := Aside0.mk (Below.refl w.heap.size w)
  have huE := Try.underlying24
  go_enter Try.func30, Try.ntmps30
  go_wp2_with fail
  repeat (go_quiet (fail); try go_wp2)
  first | go_ret | go_ret2
  exact ⟨rfl, (by repeat (first | (with_reducible first | exact HB.out | apply below_alloc | apply pw_below_drewN | apply below_drew1 | apply below_drew) | (refine Below.setCell ?_ (by first | (simp; done) | (simp; omega)) _)))⟩
end Go.Proofs.YtmgpaccgjafjeaaHVR
