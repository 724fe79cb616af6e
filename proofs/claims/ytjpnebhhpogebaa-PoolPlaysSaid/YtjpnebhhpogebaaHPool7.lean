/- What a pool that is not there answers. -/
import Derived.Test.YtjpnebhhpogebaaHPool4
namespace Go.Proofs.YtjpnebhhpogebaaHPool
open Go.RowKit Go.Proofs.YtjpnebhhpogebaaW.PrintWords Go.Proofs.YtjpnebhhpogebaaHW Go.Proofs.YtjpnebhhpogebaaHG
set_option linter.unusedVariables false
set_option linter.unusedSimpArgs false
def NilRet (v : Value) (w : World) (e : Ending) (w' : World) : Prop := e = .returned v ∧ Below w.heap.size w w'
set_option maxRecDepth 100000 in
set_option maxHeartbeats 1000000 in
theorem LeastNil (w : World) : Calls Try.prog 8 #[.pointer none] w (NilRet (.tuple #[.int .u32 0, .bool false]) w) := by
  have HB := Aside0.mk (Below.refl w.heap.size w)
  go_enter Try.func8, Try.ntmps8
  go_wp2_with fail
  repeat (go_quiet (fail); try go_wp2)
  have c1 := blk_cell (blk_alloc (blk_new w (.cells #[.int .u32 0] 22)) (.cells #[.bool false] 4)) 0
  have c2 := blk_cell (hw_at (w := w.alloc (.cells #[.int .u32 0] 22)) (n := w.heap.size + 1) (by simp) (.cells #[.bool false] 4 (0, 0))) 0
  simp only [List.getElem?_toArray, List.getElem?_cons_zero] at c1 c2
  refine bodyPost_ret (v := .tuple #[.int .u32 0, .bool false]) ?_ rfl ?_
  · simp [results, Try.results8, go_sem, c1, c2]
  exact ⟨rfl, by repeat (first | (with_reducible first | exact HB.out | apply below_alloc | apply pw_below_drewN | apply below_drew1 | apply below_drew) | (refine Below.setCell ?_ (by first | (simp; done) | (simp; omega)) _))⟩
set_option maxRecDepth 100000 in
set_option maxHeartbeats 1000000 in
theorem OwnerNil (a : Int) (w : World) : Calls Try.prog 14 #[.pointer none, .int .u32 a] w (NilRet (.tuple #[.string ⟨#[]⟩, .bool false]) w) := by
  have HB := Aside0.mk (Below.refl w.heap.size w)
  go_enter Try.func14, Try.ntmps14
  go_wp2_with fail
  repeat (go_quiet (fail); try go_wp2)
  first | go_ret | go_ret2
  exact ⟨rfl, by repeat (first | (with_reducible first | exact HB.out | apply below_alloc | apply pw_below_drewN | apply below_drew1 | apply below_drew) | (refine Below.setCell ?_ (by first | (simp; done) | (simp; omega)) _))⟩
set_option maxRecDepth 100000 in
set_option maxHeartbeats 1000000 in
theorem ClaimNil (a : Int) (s : ByteArray) (w : World) : Calls Try.prog 10 #[.pointer none, .int .u32 a, .string s] w (NilRet (.int .i64 1) w) := by
  have HB := Aside0.mk (Below.refl w.heap.size w)
  go_enter Try.func10, Try.ntmps10
  go_wp2_with fail
  repeat (go_quiet (fail); try go_wp2)
  first | go_ret | go_ret2
  exact ⟨rfl, by repeat (first | (with_reducible first | exact HB.out | apply below_alloc | apply pw_below_drewN | apply below_drew1 | apply below_drew) | (refine Below.setCell ?_ (by first | (simp; done) | (simp; omega)) _))⟩
set_option maxRecDepth 100000 in
set_option maxHeartbeats 1000000 in
theorem GiveNil (a : Int) (w : World) : Calls Try.prog 12 #[.pointer none, .int .u32 a] w (NilRet (.int .i64 1) w) := by
  have HB := Aside0.mk (Below.refl w.heap.size w)
  go_enter Try.func12, Try.ntmps12
  go_wp2_with fail
  repeat (go_quiet (fail); try go_wp2)
  first | go_ret | go_ret2
  exact ⟨rfl, by repeat (first | (with_reducible first | exact HB.out | apply below_alloc | apply pw_below_drewN | apply below_drew1 | apply below_drew) | (refine Below.setCell ?_ (by first | (simp; done) | (simp; omega)) _))⟩
set_option maxRecDepth 100000 in
set_option maxHeartbeats 1000000 in
theorem HasNil (a : Int) (w : World) : Calls Try.prog 15 #[.pointer none, .int .u32 a] w (NilRet (.bool false) w) := by
  have HB := Aside0.mk (Below.refl w.heap.size w)
  go_enter Try.func15, Try.ntmps15
  go_wp2_with fail
  repeat (go_quiet (fail); try go_wp2)
  first | go_ret | go_ret2
  exact ⟨rfl, by repeat (first | (with_reducible first | exact HB.out | apply below_alloc | apply pw_below_drewN | apply below_drew1 | apply below_drew) | (refine Below.setCell ?_ (by first | (simp; done) | (simp; omega)) _))⟩
set_option maxRecDepth 100000 in
set_option maxHeartbeats 1000000 in
theorem FreeNil (w : World) : Calls Try.prog 9 #[.pointer none] w (NilRet (.int .i64 0) w) := by
  have HB := Aside0.mk (Below.refl w.heap.size w)
  go_enter Try.func9, Try.ntmps9
  go_wp2_with fail
  repeat (go_quiet (fail); try go_wp2)
  first | go_ret | go_ret2
  exact ⟨rfl, by repeat (first | (with_reducible first | exact HB.out | apply below_alloc | apply pw_below_drewN | apply below_drew1 | apply below_drew) | (refine Below.setCell ?_ (by first | (simp; done) | (simp; omega)) _))⟩
set_option maxRecDepth 100000 in
set_option maxHeartbeats 1000000 in
theorem ListNil (w : World) : Calls Try.prog 11 #[.pointer none] w (NilRet (.slice none 0 0) w) := by
  have HB := Aside0.mk (Below.refl w.heap.size w)
  go_enter Try.func11, Try.ntmps11
  go_wp2_with fail
  repeat (go_quiet (fail); try go_wp2)
  have c1 := blk_cell (blk_new w (.cells #[.slice none 0 0] 34)) 0
  simp only [List.getElem?_toArray, List.getElem?_cons_zero] at c1
  refine bodyPost_ret (v := .slice none 0 0) ?_ rfl ?_
  · simp [results, Try.results11, go_sem, c1]
  exact ⟨rfl, by repeat (first | (with_reducible first | exact HB.out | apply below_alloc | apply pw_below_drewN | apply below_drew1 | apply below_drew) | (refine Below.setCell ?_ (by first | (simp; done) | (simp; omega)) _))⟩
set_option maxRecDepth 100000 in
set_option maxHeartbeats 1000000 in
theorem CopyNil (w : World) : Calls Try.prog 16 #[.pointer none] w (NilRet (.pointer none) w) := by
  have HB := Aside0.mk (Below.refl w.heap.size w)
  go_enter Try.func16, Try.ntmps16
  go_wp2_with fail
  repeat (go_quiet (fail); try go_wp2)
  first | go_ret | go_ret2
  exact ⟨rfl, by repeat (first | (with_reducible first | exact HB.out | apply below_alloc | apply pw_below_drewN | apply below_drew1 | apply below_drew) | (refine Below.setCell ?_ (by first | (simp; done) | (simp; omega)) _))⟩
end Go.Proofs.YtjpnebhhpogebaaHPool
