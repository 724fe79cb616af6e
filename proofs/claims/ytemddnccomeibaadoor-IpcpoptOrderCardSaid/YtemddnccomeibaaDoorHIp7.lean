/- ipcpopt: an option's kind. -/
import Derived.Test.YtemddnccomeibaaDoorHIp6
import Derived.Test.YtemddnccomeibaaDoorPG10x18
namespace Go.Proofs.YtemddnccomeibaaDoorHIp
open Go.RowKit Go.Proofs.YtemddnccomeibaaDoorW.PrintWords Go.Proofs.YtemddnccomeibaaDoorHW Go.Proofs.YtemddnccomeibaaDoorHG Go.Proofs.YtemddnccomeibaaDoor.PG10
set_option linter.unusedVariables false
set_option linter.unusedSimpArgs false
def value4 (s : ByteArray) : Int := 16777216 * bt s 0 + 65536 * bt s 1 + 256 * bt s 2 + bt s 3
def good (o : Op) : Prop := (o.f0 = 3 ∨ o.f0 = 129 ∨ o.f0 = 131) ∧ o.f1.size = 4
instance (o : Op) : Decidable (good o) := by unfold good; infer_instance
theorem value4_range (s : ByteArray) : 0 ≤ value4 s ∧ value4 s < 4294967296 := by
  unfold value4
  have b0 := bt_range s 0
  have b1 := bt_range s 1
  have b2 := bt_range s 2
  have b3 := bt_range s 3
  omega
def kfn (t : Int) : Value := if t = 3 then .func (.func 91) #[] #[] else if t = 129 then .func (.func 92) #[] #[] else .func (.func 93) #[] #[]
def findV (o : Op) : Value := if good o then .tuple #[.agg #[.int .u8 o.f0, kfn o.f0], .int .u32 (value4 o.f1), .bool true] else .tuple #[.agg #[.int .u8 0, .nilFunc], .int .u32 0, .bool false]
def errK (s : ByteArray) : Int := if s.size = 4 then 0 else if s.size < 4 then 6 else 7
theorem Get32K (s : ByteArray) (v e : Int) (hs : s.size < 9223372036854775807) (hv : (if s.size = 4 then value4 s else 0) = v) (he : errK s = e) (w : World) : Calls Tryd.prog 37 #[.string s] w fun e' w' => e' = .returned (.tuple #[.int .u32 v, .int .i64 e]) ∧ Below w.heap.size w w' := by
  have h : octet_Get32.f s = some (v, e) := by
    subst hv he
    unfold octet_Get32.f errK
    by_cases c : s.size = 4
    · rw [if_neg (by omega), if_neg (by omega), if_pos c, if_pos c]; rfl
    · by_cases c2 : s.size < 4
      · rw [if_pos (by omega), if_neg c, if_neg c, if_pos c2]
      · rw [if_neg (by omega), if_pos (by omega), if_neg c, if_neg c, if_neg c2]
  exact (octet_Get32.calls s v e w h).mono fun e' w' ⟨h1, n, h2⟩ => ⟨h1, by subst h2; exact pw_below_drewN (Below.refl _ _) n⟩
/-- A box of an option. -/
def OpAt (w : World) (B : Nat) (x : Op) : Prop := w.heap[B]? = some (.cells #[.int .u8 x.f0, .string x.f1] 38 (0, 0))
theorem OpAt.cells {w : World} {B : Nat} {x : Op} (h : OpAt w B x) : w.cell? ⟨B, 0, none⟩ = some (.int .u8 x.f0) ∧ w.cell? ⟨B, 1, none⟩ = some (.string x.f1) := ⟨blk_cell h 0, blk_cell h 1⟩
theorem OpAt.below {w w' : World} {B : Nat} {x : Op} (h : OpAt w B x) (hb : Below w.heap.size w w') : OpAt w' B x := hw_below h hb
set_option maxRecDepth 100000 in
set_option maxHeartbeats 4000000 in
theorem Find (x : Op) (hx : x.f1.size ≤ 140737488351232) (w : World) (hv : VarsAt w) :
    Calls Tryd.prog 27 #[.agg #[.int .u8 x.f0, .string x.f1]] w fun e w' => e = .returned (findV x) ∧ Below w.heap.size w w' := by
  have HV := Aside0.mk hv
  have HB := Aside0.mk (Below.refl w.heap.size w)
  obtain ⟨v, hvv⟩ : ∃ v, (if x.f1.size = 4 then value4 x.f1 else 0) = v := ⟨_, rfl⟩
  obtain ⟨e, hee⟩ : ∃ e, errK x.f1 = e := ⟨_, rfl⟩
  have H1 := Aside0.mk hvv
  have H2 := Aside0.mk hee
  have huO := Tryd.underlying38
  have huK := Tryd.underlying62
  have ix0 : ∀ W, (Instr.index 63 kindsV (.int .i64 0)).run Tryd.prog W = .ok (.agg #[.int .u8 3, .func (.func 91) #[] #[]]) W := fun W => by kernel_rfl
  have ix1 : ∀ W, (Instr.index 63 kindsV (.int .i64 1)).run Tryd.prog W = .ok (.agg #[.int .u8 129, .func (.func 92) #[] #[]]) W := fun W => by kernel_rfl
  have ix2 : ∀ W, (Instr.index 63 kindsV (.int .i64 2)).run Tryd.prog W = .ok (.agg #[.int .u8 131, .func (.func 93) #[] #[]]) W := fun W => by kernel_rfl
  unfold kindsV at ix0 ix1 ix2
  clear hv hvv hee
  have HX0 := Aside0.mk (show OpAt ((w.alloc (.cells #[.int .u8 x.f0, .string x.f1] 38)).alloc (.cells #[.int .u8 0, .nilFunc] 62)) w.heap.size x from blk_alloc (blk_new w _) _)
  have HK0 := Aside0.mk (show ((w.alloc (.cells #[.int .u8 x.f0, .string x.f1] 38)).alloc (.cells #[.int .u8 0, .nilFunc] 62)).heap[w.heap.size + 1]? = some (.cells #[.int .u8 0, .nilFunc] 62 (0, 0)) from hw_at (by simp) _)
  replace HB := Aside0.mk (below_alloc (below_alloc HB.out (.cells #[.int .u8 x.f0, .string x.f1] 38)) (.cells #[.int .u8 0, .nilFunc] 62))
  have hex : (e = 0) ↔ (x.f1.size = 4) := by rw [← H2.out]; unfold errK; split; (· simp_all); (· split <;> simp_all)
  by_cases he : e = 0
  · have sz := hex.mp he
    clear hex
    by_cases t3 : x.f0 = 3
    · have ht := t3
      clear t3
      have q3 : ((3 : Int) == x.f0) = true := by rw [ht]; rfl
      have p3 : (x.f0 == (3 : Int)) = true := by rw [ht]; rfl
      have q129 : ((129 : Int) == x.f0) = false := by rw [ht]; rfl
      have p129 : (x.f0 == (129 : Int)) = false := by rw [ht]; rfl
      have q131 : ((131 : Int) == x.f0) = false := by rw [ht]; rfl
      have p131 : (x.f0 == (131 : Int)) = false := by rw [ht]; rfl
      have b0 : (e == 0) = true := by rw [he]; rfl
      have HF := Aside0.mk (show findV x = .tuple #[.agg #[.int .u8 x.f0, kfn x.f0], .int .u32 v, .bool true] from by unfold findV; rw [if_pos ⟨by rw [ht]; decide, sz⟩, ← H1.out, if_pos sz])
      have HN := Aside0.mk (show kfn x.f0 = .func (.func 91) #[] #[] from by rw [ht]; rfl)
      have HT := Aside0.mk ht
      clear ht
      clear he
      as_aux_lemma =>
        go_enter Tryd.func27, Tryd.ntmps27
        go_wp2_with (go_at_call 37; go_must (refine (Get32K x.f1 v e (by omega) H1.out H2.out _).mono ?_); go_must (rintro e' wg ⟨rfl, hb⟩; have HX := Aside0.mk (HX0.out.below hb); have HK := Aside0.mk (hw_below HK0.out hb); replace HB := Aside0.mk (below_step HB.out hb); obtain ⟨x0, x1⟩ := HX.out.cells; have c0 := blk_cell HK.out 0; have c1 := blk_cell HK.out 1; have zf0 := blk_frozen HK.out 0; have zf1 := blk_frozen HK.out 1; have zl := blk_lt HK.out; have zx := blk_lt HX.out; have za1a : w.heap.size < wg.heap.size + 1 := (by omega); have za1b : w.heap.size + 1 < wg.heap.size + 1 := (by omega); have za2a : w.heap.size < wg.heap.size + 1 + 1 := (by omega); have za2b : w.heap.size + 1 < wg.heap.size + 1 + 1 := (by omega); have za3a : w.heap.size < wg.heap.size + 1 + 1 + 1 := (by omega); have za3b : w.heap.size + 1 < wg.heap.size + 1 + 1 + 1 := (by omega); obtain ⟨tab, mx, syn, rng, k0, k1, k2, k3, k4, k5⟩ := HV.out.below HB.out; clear tab mx syn rng; simp only [List.getElem?_toArray, List.getElem?_cons_zero, List.getElem?_cons_succ] at c0 c1); clear hb)
        refine wp_loop_rounds 4 ?_
        rw [rounds_succ]
        go_wp2_with fail
        refine bodyPost_ret (v := .tuple #[.agg #[.int .u8 3, .func (.func 91) #[] #[]], .int .u32 v, .bool true]) (by simp [results, Tryd.results27, go_sem, zx, zl, c0, c1, zf0, zf1]) rfl ⟨by rw [HF.out, HN.out, HT.out], ?_⟩
        exact (by repeat (first | (with_reducible first | exact HB.out | apply below_alloc | apply pw_below_drewN | apply below_drew1 | apply below_drew) | (refine Below.setCell ?_ (by first | (simp; done) | (simp; omega)) _)))
    · by_cases t129 : x.f0 = 129
      · have ht := t129
        clear t129 t3
        have q3 : ((3 : Int) == x.f0) = false := by rw [ht]; rfl
        have p3 : (x.f0 == (3 : Int)) = false := by rw [ht]; rfl
        have q129 : ((129 : Int) == x.f0) = true := by rw [ht]; rfl
        have p129 : (x.f0 == (129 : Int)) = true := by rw [ht]; rfl
        have q131 : ((131 : Int) == x.f0) = false := by rw [ht]; rfl
        have p131 : (x.f0 == (131 : Int)) = false := by rw [ht]; rfl
        have b0 : (e == 0) = true := by rw [he]; rfl
        have HF := Aside0.mk (show findV x = .tuple #[.agg #[.int .u8 x.f0, kfn x.f0], .int .u32 v, .bool true] from by unfold findV; rw [if_pos ⟨by rw [ht]; decide, sz⟩, ← H1.out, if_pos sz])
        have HN := Aside0.mk (show kfn x.f0 = .func (.func 92) #[] #[] from by rw [ht]; rfl)
        have HT := Aside0.mk ht
        clear ht
        clear he
        as_aux_lemma =>
          go_enter Tryd.func27, Tryd.ntmps27
          go_wp2_with (go_at_call 37; go_must (refine (Get32K x.f1 v e (by omega) H1.out H2.out _).mono ?_); go_must (rintro e' wg ⟨rfl, hb⟩; have HX := Aside0.mk (HX0.out.below hb); have HK := Aside0.mk (hw_below HK0.out hb); replace HB := Aside0.mk (below_step HB.out hb); obtain ⟨x0, x1⟩ := HX.out.cells; have c0 := blk_cell HK.out 0; have c1 := blk_cell HK.out 1; have zf0 := blk_frozen HK.out 0; have zf1 := blk_frozen HK.out 1; have zl := blk_lt HK.out; have zx := blk_lt HX.out; have za1a : w.heap.size < wg.heap.size + 1 := (by omega); have za1b : w.heap.size + 1 < wg.heap.size + 1 := (by omega); have za2a : w.heap.size < wg.heap.size + 1 + 1 := (by omega); have za2b : w.heap.size + 1 < wg.heap.size + 1 + 1 := (by omega); have za3a : w.heap.size < wg.heap.size + 1 + 1 + 1 := (by omega); have za3b : w.heap.size + 1 < wg.heap.size + 1 + 1 + 1 := (by omega); obtain ⟨tab, mx, syn, rng, k0, k1, k2, k3, k4, k5⟩ := HV.out.below HB.out; clear tab mx syn rng; simp only [List.getElem?_toArray, List.getElem?_cons_zero, List.getElem?_cons_succ] at c0 c1); clear hb)
          refine wp_loop_rounds 4 ?_
          rw [rounds_succ]
          go_wp2_with fail
          rw [rounds_succ]
          go_wp2_with fail
          refine bodyPost_ret (v := .tuple #[.agg #[.int .u8 129, .func (.func 92) #[] #[]], .int .u32 v, .bool true]) (by simp [results, Tryd.results27, go_sem, zx, zl, c0, c1, zf0, zf1]) rfl ⟨by rw [HF.out, HN.out, HT.out], ?_⟩
          exact (by repeat (first | (with_reducible first | exact HB.out | apply below_alloc | apply pw_below_drewN | apply below_drew1 | apply below_drew) | (refine Below.setCell ?_ (by first | (simp; done) | (simp; omega)) _)))
      · by_cases t131 : x.f0 = 131
        · have ht := t131
          clear t131 t129 t3
          have q3 : ((3 : Int) == x.f0) = false := by rw [ht]; rfl
          have p3 : (x.f0 == (3 : Int)) = false := by rw [ht]; rfl
          have q129 : ((129 : Int) == x.f0) = false := by rw [ht]; rfl
          have p129 : (x.f0 == (129 : Int)) = false := by rw [ht]; rfl
          have q131 : ((131 : Int) == x.f0) = true := by rw [ht]; rfl
          have p131 : (x.f0 == (131 : Int)) = true := by rw [ht]; rfl
          have b0 : (e == 0) = true := by rw [he]; rfl
          have HF := Aside0.mk (show findV x = .tuple #[.agg #[.int .u8 x.f0, kfn x.f0], .int .u32 v, .bool true] from by unfold findV; rw [if_pos ⟨by rw [ht]; decide, sz⟩, ← H1.out, if_pos sz])
          have HN := Aside0.mk (show kfn x.f0 = .func (.func 93) #[] #[] from by rw [ht]; rfl)
          have HT := Aside0.mk ht
          clear ht
          clear he
          as_aux_lemma =>
            go_enter Tryd.func27, Tryd.ntmps27
            go_wp2_with (go_at_call 37; go_must (refine (Get32K x.f1 v e (by omega) H1.out H2.out _).mono ?_); go_must (rintro e' wg ⟨rfl, hb⟩; have HX := Aside0.mk (HX0.out.below hb); have HK := Aside0.mk (hw_below HK0.out hb); replace HB := Aside0.mk (below_step HB.out hb); obtain ⟨x0, x1⟩ := HX.out.cells; have c0 := blk_cell HK.out 0; have c1 := blk_cell HK.out 1; have zf0 := blk_frozen HK.out 0; have zf1 := blk_frozen HK.out 1; have zl := blk_lt HK.out; have zx := blk_lt HX.out; have za1a : w.heap.size < wg.heap.size + 1 := (by omega); have za1b : w.heap.size + 1 < wg.heap.size + 1 := (by omega); have za2a : w.heap.size < wg.heap.size + 1 + 1 := (by omega); have za2b : w.heap.size + 1 < wg.heap.size + 1 + 1 := (by omega); have za3a : w.heap.size < wg.heap.size + 1 + 1 + 1 := (by omega); have za3b : w.heap.size + 1 < wg.heap.size + 1 + 1 + 1 := (by omega); obtain ⟨tab, mx, syn, rng, k0, k1, k2, k3, k4, k5⟩ := HV.out.below HB.out; clear tab mx syn rng; simp only [List.getElem?_toArray, List.getElem?_cons_zero, List.getElem?_cons_succ] at c0 c1); clear hb)
            refine wp_loop_rounds 4 ?_
            rw [rounds_succ]
            go_wp2_with fail
            rw [rounds_succ]
            go_wp2_with fail
            rw [rounds_succ]
            go_wp2_with fail
            refine bodyPost_ret (v := .tuple #[.agg #[.int .u8 131, .func (.func 93) #[] #[]], .int .u32 v, .bool true]) (by simp [results, Tryd.results27, go_sem, zx, zl, c0, c1, zf0, zf1]) rfl ⟨by rw [HF.out, HN.out, HT.out], ?_⟩
            exact (by repeat (first | (with_reducible first | exact HB.out | apply below_alloc | apply pw_below_drewN | apply below_drew1 | apply below_drew) | (refine Below.setCell ?_ (by first | (simp; done) | (simp; omega)) _)))
        · have n3 := t3
          have n129 := t129
          have n131 := t131
          clear t3 t129 t131
          have q3 : ((3 : Int) == x.f0) = false := by rw [beq_eq_false_iff_ne]; exact fun h => n3 h.symm
          have p3 : (x.f0 == (3 : Int)) = false := by rw [beq_eq_false_iff_ne]; exact n3
          have q129 : ((129 : Int) == x.f0) = false := by rw [beq_eq_false_iff_ne]; exact fun h => n129 h.symm
          have p129 : (x.f0 == (129 : Int)) = false := by rw [beq_eq_false_iff_ne]; exact n129
          have q131 : ((131 : Int) == x.f0) = false := by rw [beq_eq_false_iff_ne]; exact fun h => n131 h.symm
          have p131 : (x.f0 == (131 : Int)) = false := by rw [beq_eq_false_iff_ne]; exact n131
          have b0 : (e == 0) = true := by rw [he]; rfl
          have HF := Aside0.mk (show findV x = .tuple #[.agg #[.int .u8 0, .nilFunc], .int .u32 0, .bool false] from by unfold findV; rw [if_neg (fun h => h.1.elim n3 (fun h => h.elim n129 n131))])
          clear n3 n129 n131
          clear he sz
          as_aux_lemma =>
            go_enter Tryd.func27, Tryd.ntmps27
            go_wp2_with (go_at_call 37; go_must (refine (Get32K x.f1 v e (by omega) H1.out H2.out _).mono ?_); go_must (rintro e' wg ⟨rfl, hb⟩; have HX := Aside0.mk (HX0.out.below hb); have HK := Aside0.mk (hw_below HK0.out hb); replace HB := Aside0.mk (below_step HB.out hb); obtain ⟨x0, x1⟩ := HX.out.cells; have c0 := blk_cell HK.out 0; have c1 := blk_cell HK.out 1; have zf0 := blk_frozen HK.out 0; have zf1 := blk_frozen HK.out 1; have zl := blk_lt HK.out; have zx := blk_lt HX.out; have za1a : w.heap.size < wg.heap.size + 1 := (by omega); have za1b : w.heap.size + 1 < wg.heap.size + 1 := (by omega); have za2a : w.heap.size < wg.heap.size + 1 + 1 := (by omega); have za2b : w.heap.size + 1 < wg.heap.size + 1 + 1 := (by omega); have za3a : w.heap.size < wg.heap.size + 1 + 1 + 1 := (by omega); have za3b : w.heap.size + 1 < wg.heap.size + 1 + 1 + 1 := (by omega); obtain ⟨tab, mx, syn, rng, k0, k1, k2, k3, k4, k5⟩ := HV.out.below HB.out; clear tab mx syn rng; simp only [List.getElem?_toArray, List.getElem?_cons_zero, List.getElem?_cons_succ] at c0 c1); clear hb)
            refine wp_loop_rounds 4 ?_
            rw [rounds_succ]
            go_wp2_with fail
            rw [rounds_succ]
            go_wp2_with fail
            rw [rounds_succ]
            go_wp2_with fail
            rw [rounds_succ]
            go_wp2_with fail
            refine bodyPost_ret (v := .tuple #[.agg #[.int .u8 0, .nilFunc], .int .u32 0, .bool false]) (by simp [results, Tryd.results27, go_sem, zx, zl, c0, c1, zf0, zf1]) rfl ⟨by rw [HF.out], ?_⟩
            exact (by repeat (first | (with_reducible first | exact HB.out | apply below_alloc | apply pw_below_drewN | apply below_drew1 | apply below_drew) | (refine Below.setCell ?_ (by first | (simp; done) | (simp; omega)) _)))
  · have sz := fun h => he (hex.mpr h)
    clear hex
    by_cases t3 : x.f0 = 3
    · have ht := t3
      clear t3
      have q3 : ((3 : Int) == x.f0) = true := by rw [ht]; rfl
      have p3 : (x.f0 == (3 : Int)) = true := by rw [ht]; rfl
      have q129 : ((129 : Int) == x.f0) = false := by rw [ht]; rfl
      have p129 : (x.f0 == (129 : Int)) = false := by rw [ht]; rfl
      have q131 : ((131 : Int) == x.f0) = false := by rw [ht]; rfl
      have p131 : (x.f0 == (131 : Int)) = false := by rw [ht]; rfl
      have b0 : (e == 0) = false := beq_eq_false_iff_ne.mpr he
      have HF := Aside0.mk (show findV x = .tuple #[.agg #[.int .u8 0, .nilFunc], .int .u32 0, .bool false] from by unfold findV; rw [if_neg (fun h => sz h.2)])
      clear ht
      clear he sz
      as_aux_lemma =>
        go_enter Tryd.func27, Tryd.ntmps27
        go_wp2_with (go_at_call 37; go_must (refine (Get32K x.f1 v e (by omega) H1.out H2.out _).mono ?_); go_must (rintro e' wg ⟨rfl, hb⟩; have HX := Aside0.mk (HX0.out.below hb); have HK := Aside0.mk (hw_below HK0.out hb); replace HB := Aside0.mk (below_step HB.out hb); obtain ⟨x0, x1⟩ := HX.out.cells; have c0 := blk_cell HK.out 0; have c1 := blk_cell HK.out 1; have zf0 := blk_frozen HK.out 0; have zf1 := blk_frozen HK.out 1; have zl := blk_lt HK.out; have zx := blk_lt HX.out; have za1a : w.heap.size < wg.heap.size + 1 := (by omega); have za1b : w.heap.size + 1 < wg.heap.size + 1 := (by omega); have za2a : w.heap.size < wg.heap.size + 1 + 1 := (by omega); have za2b : w.heap.size + 1 < wg.heap.size + 1 + 1 := (by omega); have za3a : w.heap.size < wg.heap.size + 1 + 1 + 1 := (by omega); have za3b : w.heap.size + 1 < wg.heap.size + 1 + 1 + 1 := (by omega); obtain ⟨tab, mx, syn, rng, k0, k1, k2, k3, k4, k5⟩ := HV.out.below HB.out; clear tab mx syn rng; simp only [List.getElem?_toArray, List.getElem?_cons_zero, List.getElem?_cons_succ] at c0 c1); clear hb)
        refine wp_loop_rounds 4 ?_
        rw [rounds_succ]
        go_wp2_with fail
        rw [rounds_succ]
        go_wp2_with fail
        rw [rounds_succ]
        go_wp2_with fail
        rw [rounds_succ]
        go_wp2_with fail
        refine bodyPost_ret (v := .tuple #[.agg #[.int .u8 0, .nilFunc], .int .u32 0, .bool false]) (by simp [results, Tryd.results27, go_sem, zx, zl, c0, c1, zf0, zf1]) rfl ⟨by rw [HF.out], ?_⟩
        exact (by repeat (first | (with_reducible first | exact HB.out | apply below_alloc | apply pw_below_drewN | apply below_drew1 | apply below_drew) | (refine Below.setCell ?_ (by first | (simp; done) | (simp; omega)) _)))
    · by_cases t129 : x.f0 = 129
      · have ht := t129
        clear t129 t3
        have q3 : ((3 : Int) == x.f0) = false := by rw [ht]; rfl
        have p3 : (x.f0 == (3 : Int)) = false := by rw [ht]; rfl
        have q129 : ((129 : Int) == x.f0) = true := by rw [ht]; rfl
        have p129 : (x.f0 == (129 : Int)) = true := by rw [ht]; rfl
        have q131 : ((131 : Int) == x.f0) = false := by rw [ht]; rfl
        have p131 : (x.f0 == (131 : Int)) = false := by rw [ht]; rfl
        have b0 : (e == 0) = false := beq_eq_false_iff_ne.mpr he
        have HF := Aside0.mk (show findV x = .tuple #[.agg #[.int .u8 0, .nilFunc], .int .u32 0, .bool false] from by unfold findV; rw [if_neg (fun h => sz h.2)])
        clear ht
        clear he sz
        as_aux_lemma =>
          go_enter Tryd.func27, Tryd.ntmps27
          go_wp2_with (go_at_call 37; go_must (refine (Get32K x.f1 v e (by omega) H1.out H2.out _).mono ?_); go_must (rintro e' wg ⟨rfl, hb⟩; have HX := Aside0.mk (HX0.out.below hb); have HK := Aside0.mk (hw_below HK0.out hb); replace HB := Aside0.mk (below_step HB.out hb); obtain ⟨x0, x1⟩ := HX.out.cells; have c0 := blk_cell HK.out 0; have c1 := blk_cell HK.out 1; have zf0 := blk_frozen HK.out 0; have zf1 := blk_frozen HK.out 1; have zl := blk_lt HK.out; have zx := blk_lt HX.out; have za1a : w.heap.size < wg.heap.size + 1 := (by omega); have za1b : w.heap.size + 1 < wg.heap.size + 1 := (by omega); have za2a : w.heap.size < wg.heap.size + 1 + 1 := (by omega); have za2b : w.heap.size + 1 < wg.heap.size + 1 + 1 := (by omega); have za3a : w.heap.size < wg.heap.size + 1 + 1 + 1 := (by omega); have za3b : w.heap.size + 1 < wg.heap.size + 1 + 1 + 1 := (by omega); obtain ⟨tab, mx, syn, rng, k0, k1, k2, k3, k4, k5⟩ := HV.out.below HB.out; clear tab mx syn rng; simp only [List.getElem?_toArray, List.getElem?_cons_zero, List.getElem?_cons_succ] at c0 c1); clear hb)
          refine wp_loop_rounds 4 ?_
          rw [rounds_succ]
          go_wp2_with fail
          rw [rounds_succ]
          go_wp2_with fail
          rw [rounds_succ]
          go_wp2_with fail
          rw [rounds_succ]
          go_wp2_with fail
          refine bodyPost_ret (v := .tuple #[.agg #[.int .u8 0, .nilFunc], .int .u32 0, .bool false]) (by simp [results, Tryd.results27, go_sem, zx, zl, c0, c1, zf0, zf1]) rfl ⟨by rw [HF.out], ?_⟩
          exact (by repeat (first | (with_reducible first | exact HB.out | apply below_alloc | apply pw_below_drewN | apply below_drew1 | apply below_drew) | (refine Below.setCell ?_ (by first | (simp; done) | (simp; omega)) _)))
      · by_cases t131 : x.f0 = 131
        · have ht := t131
          clear t131 t129 t3
          have q3 : ((3 : Int) == x.f0) = false := by rw [ht]; rfl
          have p3 : (x.f0 == (3 : Int)) = false := by rw [ht]; rfl
          have q129 : ((129 : Int) == x.f0) = false := by rw [ht]; rfl
          have p129 : (x.f0 == (129 : Int)) = false := by rw [ht]; rfl
          have q131 : ((131 : Int) == x.f0) = true := by rw [ht]; rfl
          have p131 : (x.f0 == (131 : Int)) = true := by rw [ht]; rfl
          have b0 : (e == 0) = false := beq_eq_false_iff_ne.mpr he
          have HF := Aside0.mk (show findV x = .tuple #[.agg #[.int .u8 0, .nilFunc], .int .u32 0, .bool false] from by unfold findV; rw [if_neg (fun h => sz h.2)])
          clear ht
          clear he sz
          as_aux_lemma =>
            go_enter Tryd.func27, Tryd.ntmps27
            go_wp2_with (go_at_call 37; go_must (refine (Get32K x.f1 v e (by omega) H1.out H2.out _).mono ?_); go_must (rintro e' wg ⟨rfl, hb⟩; have HX := Aside0.mk (HX0.out.below hb); have HK := Aside0.mk (hw_below HK0.out hb); replace HB := Aside0.mk (below_step HB.out hb); obtain ⟨x0, x1⟩ := HX.out.cells; have c0 := blk_cell HK.out 0; have c1 := blk_cell HK.out 1; have zf0 := blk_frozen HK.out 0; have zf1 := blk_frozen HK.out 1; have zl := blk_lt HK.out; have zx := blk_lt HX.out; have za1a : w.heap.size < wg.heap.size + 1 := (by omega); have za1b : w.heap.size + 1 < wg.heap.size + 1 := (by omega); have za2a : w.heap.size < wg.heap.size + 1 + 1 := (by omega); have za2b : w.heap.size + 1 < wg.heap.size + 1 + 1 := (by omega); have za3a : w.heap.size < wg.heap.size + 1 + 1 + 1 := (by omega); have za3b : w.heap.size + 1 < wg.heap.size + 1 + 1 + 1 := (by omega); obtain ⟨tab, mx, syn, rng, k0, k1, k2, k3, k4, k5⟩ := HV.out.below HB.out; clear tab mx syn rng; simp only [List.getElem?_toArray, List.getElem?_cons_zero, List.getElem?_cons_succ] at c0 c1); clear hb)
            refine wp_loop_rounds 4 ?_
            rw [rounds_succ]
            go_wp2_with fail
            rw [rounds_succ]
            go_wp2_with fail
            rw [rounds_succ]
            go_wp2_with fail
            rw [rounds_succ]
            go_wp2_with fail
            refine bodyPost_ret (v := .tuple #[.agg #[.int .u8 0, .nilFunc], .int .u32 0, .bool false]) (by simp [results, Tryd.results27, go_sem, zx, zl, c0, c1, zf0, zf1]) rfl ⟨by rw [HF.out], ?_⟩
            exact (by repeat (first | (with_reducible first | exact HB.out | apply below_alloc | apply pw_below_drewN | apply below_drew1 | apply below_drew) | (refine Below.setCell ?_ (by first | (simp; done) | (simp; omega)) _)))
        · have n3 := t3
          have n129 := t129
          have n131 := t131
          clear t3 t129 t131
          have q3 : ((3 : Int) == x.f0) = false := by rw [beq_eq_false_iff_ne]; exact fun h => n3 h.symm
          have p3 : (x.f0 == (3 : Int)) = false := by rw [beq_eq_false_iff_ne]; exact n3
          have q129 : ((129 : Int) == x.f0) = false := by rw [beq_eq_false_iff_ne]; exact fun h => n129 h.symm
          have p129 : (x.f0 == (129 : Int)) = false := by rw [beq_eq_false_iff_ne]; exact n129
          have q131 : ((131 : Int) == x.f0) = false := by rw [beq_eq_false_iff_ne]; exact fun h => n131 h.symm
          have p131 : (x.f0 == (131 : Int)) = false := by rw [beq_eq_false_iff_ne]; exact n131
          have b0 : (e == 0) = false := beq_eq_false_iff_ne.mpr he
          have HF := Aside0.mk (show findV x = .tuple #[.agg #[.int .u8 0, .nilFunc], .int .u32 0, .bool false] from by unfold findV; rw [if_neg (fun h => h.1.elim n3 (fun h => h.elim n129 n131))])
          clear n3 n129 n131
          clear he sz
          as_aux_lemma =>
            go_enter Tryd.func27, Tryd.ntmps27
            go_wp2_with (go_at_call 37; go_must (refine (Get32K x.f1 v e (by omega) H1.out H2.out _).mono ?_); go_must (rintro e' wg ⟨rfl, hb⟩; have HX := Aside0.mk (HX0.out.below hb); have HK := Aside0.mk (hw_below HK0.out hb); replace HB := Aside0.mk (below_step HB.out hb); obtain ⟨x0, x1⟩ := HX.out.cells; have c0 := blk_cell HK.out 0; have c1 := blk_cell HK.out 1; have zf0 := blk_frozen HK.out 0; have zf1 := blk_frozen HK.out 1; have zl := blk_lt HK.out; have zx := blk_lt HX.out; have za1a : w.heap.size < wg.heap.size + 1 := (by omega); have za1b : w.heap.size + 1 < wg.heap.size + 1 := (by omega); have za2a : w.heap.size < wg.heap.size + 1 + 1 := (by omega); have za2b : w.heap.size + 1 < wg.heap.size + 1 + 1 := (by omega); have za3a : w.heap.size < wg.heap.size + 1 + 1 + 1 := (by omega); have za3b : w.heap.size + 1 < wg.heap.size + 1 + 1 + 1 := (by omega); obtain ⟨tab, mx, syn, rng, k0, k1, k2, k3, k4, k5⟩ := HV.out.below HB.out; clear tab mx syn rng; simp only [List.getElem?_toArray, List.getElem?_cons_zero, List.getElem?_cons_succ] at c0 c1); clear hb)
            refine wp_loop_rounds 4 ?_
            rw [rounds_succ]
            go_wp2_with fail
            rw [rounds_succ]
            go_wp2_with fail
            rw [rounds_succ]
            go_wp2_with fail
            rw [rounds_succ]
            go_wp2_with fail
            refine bodyPost_ret (v := .tuple #[.agg #[.int .u8 0, .nilFunc], .int .u32 0, .bool false]) (by simp [results, Tryd.results27, go_sem, zx, zl, c0, c1, zf0, zf1]) rfl ⟨by rw [HF.out], ?_⟩
            exact (by repeat (first | (with_reducible first | exact HB.out | apply below_alloc | apply pw_below_drewN | apply below_drew1 | apply below_drew) | (refine Below.setCell ?_ (by first | (simp; done) | (simp; omega)) _)))
end Go.Proofs.YtemddnccomeibaaDoorHIp
