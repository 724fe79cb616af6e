/- What a book that is not there answers. -/
import Derived.Test.YtdahijckoblbgaaHPlan5
namespace Go.Proofs.YtdahijckoblbgaaHVP
open Go.RowKit Go.Maps Go.Sort Go.Shelf Go.Lib Go.Proofs.YtdahijckoblbgaaW.PrintWords Go.Proofs.YtdahijckoblbgaaHW Go.Proofs.YtdahijckoblbgaaHG Go.Proofs.Ytdahijckoblbgaa.PG27 Go.Proofs.YtdahijckoblbgaaHT
set_option linter.unusedVariables false
set_option linter.unusedSimpArgs false
def NilRet (v : Value) (w : World) (e : Ending) (w' : World) : Prop := e = .returned v ∧ Below w.heap.size w w'
set_option maxRecDepth 100000 in
set_option maxHeartbeats 1000000 in
theorem AddNil (x : El) (w : World) : Calls Try.prog 17 #[.pointer none, .agg #[.string x.f0, .int .i64 x.f1]] w (NilRet (.int .i64 1) w) := by
  have HB := Aside0.mk (Below.refl w.heap.size w)
  go_enter Try.func17, Try.ntmps17
  go_wp2_with fail
  repeat (go_quiet (fail); try go_wp2)
  first | go_ret | go_ret2
  exact ⟨rfl, by repeat (first | (with_reducible first | exact HB.out | apply below_alloc | apply pw_below_drewN | apply below_drew1 | apply below_drew) | (refine Below.setCell ?_ (by first | (simp; done) | (simp; omega)) _))⟩
set_option maxRecDepth 100000 in
set_option maxHeartbeats 1000000 in
theorem DelNil (s : ByteArray) (w : World) : Calls Try.prog 18 #[.pointer none, .string s] w (NilRet (.int .i64 1) w) := by
  have HB := Aside0.mk (Below.refl w.heap.size w)
  go_enter Try.func18, Try.ntmps18
  go_wp2_with fail
  repeat (go_quiet (fail); try go_wp2)
  first | go_ret | go_ret2
  exact ⟨rfl, by repeat (first | (with_reducible first | exact HB.out | apply below_alloc | apply pw_below_drewN | apply below_drew1 | apply below_drew) | (refine Below.setCell ?_ (by first | (simp; done) | (simp; omega)) _))⟩
set_option maxRecDepth 100000 in
set_option maxHeartbeats 1000000 in
theorem OfNil (s : ByteArray) (w : World) : Calls Try.prog 14 #[.pointer none, .string s] w (NilRet (.tuple #[.agg #[.string ⟨#[]⟩, .int .i64 0], .bool false]) w) := by
  have HB := Aside0.mk (Below.refl w.heap.size w)
  go_enter Try.func14, Try.ntmps14
  go_wp2_with fail
  repeat (go_quiet (fail); try go_wp2)
  refine bodyPost_ret (v := .tuple #[.agg #[.string ⟨#[]⟩, .int .i64 0], .bool false]) (by simp [results, Try.results14, go_sem]) rfl ?_
  exact ⟨rfl, by repeat (first | (with_reducible first | exact HB.out | apply below_alloc | apply pw_below_drewN | apply below_drew1 | apply below_drew) | (refine Below.setCell ?_ (by first | (simp; done) | (simp; omega)) _))⟩
set_option maxRecDepth 100000 in
set_option maxHeartbeats 1000000 in
theorem ListNil (w : World) : Calls Try.prog 13 #[.pointer none] w (NilRet (.slice none 0 0) w) := by
  have HB := Aside0.mk (Below.refl w.heap.size w)
  go_enter Try.func13, Try.ntmps13
  go_wp2_with fail
  repeat (go_quiet (fail); try go_wp2)
  first | go_ret | go_ret2
  exact ⟨rfl, by repeat (first | (with_reducible first | exact HB.out | apply below_alloc | apply pw_below_drewN | apply below_drew1 | apply below_drew) | (refine Below.setCell ?_ (by first | (simp; done) | (simp; omega)) _))⟩
set_option maxRecDepth 100000 in
set_option maxHeartbeats 1000000 in
theorem CopyNil (w : World) : Calls Try.prog 19 #[.pointer none] w (NilRet (.pointer none) w) := by
  have HB := Aside0.mk (Below.refl w.heap.size w)
  go_enter Try.func19, Try.ntmps19
  go_wp2_with fail
  repeat (go_quiet (fail); try go_wp2)
  first | go_ret | go_ret2
  exact ⟨rfl, by repeat (first | (with_reducible first | exact HB.out | apply below_alloc | apply pw_below_drewN | apply below_drew1 | apply below_drew) | (refine Below.setCell ?_ (by first | (simp; done) | (simp; omega)) _))⟩
set_option maxRecDepth 100000 in
set_option maxHeartbeats 1000000 in
theorem FitsNil (a : Int) (w : World) : Calls Try.prog 12 #[.pointer none, .int .i64 a] w (NilRet (.tuple #[.agg #[.string ⟨#[]⟩, .int .i64 0], .bool false]) w) := by
  have HB := Aside0.mk (Below.refl w.heap.size w)
  have huE := Try.underlying30
  go_enter Try.func12, Try.ntmps12
  go_wp2_with (go_at_call 13; refine (ListNil _).mono ?_; rintro e w1 ⟨rfl, hb⟩; have HX := Aside0.mk (elAt_call (elAt_new w z30) hb); have zx := blk_lt HX.out; have e0 := HX.out.cell 0; have e1 := HX.out.cell 1; have f0 := blk_frozen HX.out 0; have f1 := blk_frozen HX.out 1; simp only [cel, List.getElem?_cons_zero, List.getElem?_cons_succ] at e0 e1; replace HB := Aside0.mk (below_step (by repeat (first | (with_reducible first | exact HB.out | apply below_alloc | apply pw_below_drewN | apply below_drew1 | apply below_drew) | (refine Below.setCell ?_ (by first | (simp; done) | (simp; omega)) _))) hb); clear hb)
  go_loopw [5, 11] (fun v5 v11 wr => v5 = .bool false ∧ v11 = .int .i64 0 ∧ wr = w1) (fun _ _ _ => 0)
  case atStart => exact ⟨rfl, rfl, rfl⟩
  case round =>
    obtain ⟨rfl, rfl, rfl⟩ := hrel
    go_wp2_with fail
    refine bodyPost_ret (v := .tuple #[.agg #[.string ⟨#[]⟩, .int .i64 0], .bool false]) (by simp [results, Try.results12, go_sem, zx, e0, e1, z30]) rfl ⟨rfl, ?_⟩
    exact (by repeat (first | (with_reducible first | exact HB.out | apply below_alloc | apply pw_below_drewN | apply below_drew1 | apply below_drew) | (refine Below.setCell ?_ (by first | (simp; done) | (simp; omega)) _)))
end Go.Proofs.YtdahijckoblbgaaHVP
