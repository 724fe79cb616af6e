-- WRITTEN by wip/tools/hprint.py: the kit's print.py run over this translation, with functions proved by hand laid in. Lean checks it.
import Derived.Test.YtdlpoemjgeehgaaPG06x0
import Derived.Test.YtdlpoemjgeehgaaPG06x5
import Derived.Test.YtdlpoemjgeehgaaPG06x9
import Derived.Test.YtdlpoemjgeehgaaPG06x10
namespace Go.Proofs.Ytdlpoemjgeehgaa.PG06
open Go.RowKit Go.Proofs.YtdlpoemjgeehgaaW.PrintWords Go.Proofs.YtdlpoemjgeehgaaW.PrintLast Go.Proofs.YtdlpoemjgeehgaaW.PrintMore Go.Proofs.YtdlpoemjgeehgaaHW
attribute [local go_sem] max2_int min2_int max_two min_two max_three min_three max_four min_four   -- for this text's walks alone
set_option linter.unusedVariables false
set_option linter.unusedSimpArgs false

/-! ### halyardlaw06_FieldEnds: function 9 -/
mutual
def halyardlaw06_FieldEnds.j0 : Nat → Int → ByteArray → ByteArray → Int → ByteArray → Int → Bool → Option (Bool)
  | 0, _, _, _, _, _, _, _ => none
  | k + 1, x0, x2, x3, x4, x11, x12, x38 => if x38 = true then (if x12 = 2 then ((halyardlaw06_alive.f).bind fun t215 => (some t215)) else (some false)) else (if (x11.size : Int) = 0 then (none) else (if 0 ≤ (Int.tmod (wrap64 (x4)) (x11.size : Int)) then (if (Int.tmod (wrap64 (x4)) (x11.size : Int)) ≤ (x11.size : Int) then ((field_Get.f (x11.extract 0 ((Int.tmod (wrap64 (x4)) (x11.size : Int)) : Int).toNat)).bind fun bt216 => (if x11.size + x2.size ≤ 9223372036854775807 then (if (x11 ++ x2).size + x3.size ≤ 9223372036854775807 then ((field_Get.f ((x11 ++ x2) ++ x3)).bind fun bt219 => (if bt219.2.2 = 0 then (if bt219.1 = x0 then (if x2.size + x3.size ≤ 9223372036854775807 then (halyardlaw06_FieldEnds.j1 k x11 (Int.tmod (wrap64 (x4)) (x11.size : Int)) bt216.1 bt216.2.1 bt216.2.2 (bt219.2.1.toList != (x2 ++ x3).toList)) else (none)) else (halyardlaw06_FieldEnds.j1 k x11 (Int.tmod (wrap64 (x4)) (x11.size : Int)) bt216.1 bt216.2.1 bt216.2.2 true)) else (halyardlaw06_FieldEnds.j1 k x11 (Int.tmod (wrap64 (x4)) (x11.size : Int)) bt216.1 bt216.2.1 bt216.2.2 true))) else (none)) else (none))) else (none)) else (none)))
def halyardlaw06_FieldEnds.j1 : Nat → ByteArray → Int → Int → ByteArray → Int → Bool → Option (Bool)
  | 0, _, _, _, _, _, _ => none
  | k + 1, x11, x13, x14, x15, x16, x80 => if x80 = true then (some false) else (if x13 = 1 then (if 0 < (x11.size : Int) then (halyardlaw06_FieldEnds.j2 k x14 x15 x16 ((bt x11 0) == 255)) else (none)) else (halyardlaw06_FieldEnds.j2 k x14 x15 x16 false))
def halyardlaw06_FieldEnds.j2 : Nat → Int → ByteArray → Int → Bool → Option (Bool)
  | 0, _, _, _, _ => none
  | k + 1, x14, x15, x16, x87 => if x87 = true then (if x16 = 7 then ((halyardlaw06_alive.f).bind fun t222 => (some t222)) else (some false)) else (if x14 = 0 then (if x15.toList = ([] : List UInt8) then (if x16 = 6 then ((halyardlaw06_alive.f).bind fun t223 => (some t223)) else (some false)) else (some false)) else (some false))
end
def halyardlaw06_FieldEnds.f (k : Nat) (a0 : Int) (a1_0 : Bool) (a1_1 : Bool) (a2 : ByteArray) (a3 : ByteArray) (a4 : Int) : Option (Bool) := if (wrap64 ((a2.size : Int) + (a3.size : Int))) > 16384 then ((halyardlaw06_alive.f).bind fun t212 => (some t212)) else ((field_Put.f a0 (⟨#[]⟩ : ByteArray) a1_0 a1_1).bind fun bt213 => (if bt213.2 = 0 then (halyardlaw06_FieldEnds.j0 k a0 a2 a3 a4 bt213.1 bt213.2 (bt213.1.toList == ([] : List UInt8))) else (halyardlaw06_FieldEnds.j0 k a0 a2 a3 a4 bt213.1 bt213.2 true)))
theorem halyardlaw06_FieldEnds.mono_l : ∀ k, (∀ y0 y1 y2 y3 y4 y5 y6, LeO (halyardlaw06_FieldEnds.j0 k y0 y1 y2 y3 y4 y5 y6) (halyardlaw06_FieldEnds.j0 (k + 1) y0 y1 y2 y3 y4 y5 y6)) ∧ (∀ y0 y1 y2 y3 y4 y5, LeO (halyardlaw06_FieldEnds.j1 k y0 y1 y2 y3 y4 y5) (halyardlaw06_FieldEnds.j1 (k + 1) y0 y1 y2 y3 y4 y5)) ∧ (∀ y0 y1 y2 y3, LeO (halyardlaw06_FieldEnds.j2 k y0 y1 y2 y3) (halyardlaw06_FieldEnds.j2 (k + 1) y0 y1 y2 y3))
  | 0 => ⟨fun _ _ _ _ _ _ _ r h => by simp [halyardlaw06_FieldEnds.j0] at h, fun _ _ _ _ _ _ r h => by simp [halyardlaw06_FieldEnds.j1] at h, fun _ _ _ _ r h => by simp [halyardlaw06_FieldEnds.j2] at h⟩
  | k + 1 => by
    obtain ⟨ih0, ih1, ih2⟩ := halyardlaw06_FieldEnds.mono_l k
    refine ⟨?_, ?_, ?_⟩
    · intro y0 y1 y2 y3 y4 y5 y6
      unfold halyardlaw06_FieldEnds.j0
      repeat' first
      | (with_reducible exact ih0 _ _ _ _ _ _ _)
      | (with_reducible exact ih1 _ _ _ _ _ _)
      | (with_reducible exact ih2 _ _ _ _)
      | (with_reducible exact LeO.refl _)
      | (with_reducible exact LeO.none _)
      | (with_reducible refine LeO.ite ?_ ?_)
      | (with_reducible refine LeO.bind ?_ (fun _ => ?_))
      | exact ih0 _ _ _ _ _ _ _
      | exact ih1 _ _ _ _ _ _
      | exact ih2 _ _ _ _
      | exact LeO.none _
      | refine LeO.ite ?_ ?_
      | refine LeO.bind ?_ (fun _ => ?_)
    · intro y0 y1 y2 y3 y4 y5
      unfold halyardlaw06_FieldEnds.j1
      repeat' first
      | (with_reducible exact ih0 _ _ _ _ _ _ _)
      | (with_reducible exact ih1 _ _ _ _ _ _)
      | (with_reducible exact ih2 _ _ _ _)
      | (with_reducible exact LeO.refl _)
      | (with_reducible exact LeO.none _)
      | (with_reducible refine LeO.ite ?_ ?_)
      | (with_reducible refine LeO.bind ?_ (fun _ => ?_))
      | exact ih0 _ _ _ _ _ _ _
      | exact ih1 _ _ _ _ _ _
      | exact ih2 _ _ _ _
      | exact LeO.none _
      | refine LeO.ite ?_ ?_
      | refine LeO.bind ?_ (fun _ => ?_)
    · intro y0 y1 y2 y3
      unfold halyardlaw06_FieldEnds.j2
      repeat' first
      | (with_reducible exact ih0 _ _ _ _ _ _ _)
      | (with_reducible exact ih1 _ _ _ _ _ _)
      | (with_reducible exact ih2 _ _ _ _)
      | (with_reducible exact LeO.refl _)
      | (with_reducible exact LeO.none _)
      | (with_reducible refine LeO.ite ?_ ?_)
      | (with_reducible refine LeO.bind ?_ (fun _ => ?_))
      | exact ih0 _ _ _ _ _ _ _
      | exact ih1 _ _ _ _ _ _
      | exact ih2 _ _ _ _
      | exact LeO.none _
      | refine LeO.ite ?_ ?_
      | refine LeO.bind ?_ (fun _ => ?_)
theorem halyardlaw06_FieldEnds.mono : ∀ a0 a1 a2 a3 a4 a5 k, LeO (halyardlaw06_FieldEnds.f k a0 a1 a2 a3 a4 a5) (halyardlaw06_FieldEnds.f (k + 1) a0 a1 a2 a3 a4 a5) := by
  intro a0 a1 a2 a3 a4 a5 k
  obtain ⟨ih0, ih1, ih2⟩ := halyardlaw06_FieldEnds.mono_l k
  unfold halyardlaw06_FieldEnds.f
  repeat' first
      | (with_reducible exact ih0 _ _ _ _ _ _ _)
      | (with_reducible exact ih1 _ _ _ _ _ _)
      | (with_reducible exact ih2 _ _ _ _)
      | (with_reducible exact LeO.refl _)
      | (with_reducible exact LeO.none _)
      | (with_reducible refine LeO.ite ?_ ?_)
      | (with_reducible refine LeO.bind ?_ (fun _ => ?_))
      | exact ih0 _ _ _ _ _ _ _
      | exact ih1 _ _ _ _ _ _
      | exact ih2 _ _ _ _
      | exact LeO.none _
      | refine LeO.ite ?_ ?_
      | refine LeO.bind ?_ (fun _ => ?_)
set_option maxHeartbeats 8000000 in
set_option maxRecDepth 100000 in
theorem halyardlaw06_FieldEnds.calls (k : Nat) (a0 : Int) (a1_0 : Bool) (a1_1 : Bool) (a2 : ByteArray) (a3 : ByteArray) (a4 : Int) (r : Bool) (w : World) (h : halyardlaw06_FieldEnds.f k a0 a1_0 a1_1 a2 a3 a4 = some r) :
    Calls Try.prog 9 #[.int .u16 a0, .agg #[.bool a1_0, .bool a1_1], .string a2, .string a3, .int .u8 a4] w fun e w' => e = .returned (.bool r) ∧ Below w.heap.size w w' := by
  have hu38 := Try.underlying38
  have HB := Aside0.mk (Below.refl w.heap.size w)
  have H : (if (wrap64 ((a2.size : Int) + (a3.size : Int))) > 16384 then ((halyardlaw06_alive.f).bind fun t212 => (some t212)) else ((field_Put.f a0 (⟨#[]⟩ : ByteArray) a1_0 a1_1).bind fun bt213 => (if bt213.2 = 0 then (halyardlaw06_FieldEnds.j0 k a0 a2 a3 a4 bt213.1 bt213.2 (bt213.1.toList == ([] : List UInt8))) else (halyardlaw06_FieldEnds.j0 k a0 a2 a3 a4 bt213.1 bt213.2 true)))) = some r := h
  clear h
  by_cases c6 : (wrap64 ((a2.size : Int) + (a3.size : Int))) > 16384
  · rw [if_pos c6] at H
    have c6b0 : decide (16384 < (wrap64 ((a2.size : Int) + (a3.size : Int)))) = true := decide_eq_true c6
    clear c6
    replace H := Option.bind_eq_some_iff.mp H
    obtain ⟨t212, A70, H⟩ := H
    replace H : (some t212) = some r := H
    have A7 := Aside0.mk A70
    clear A70
    obtain rfl := Option.some.inj H
    go_enter Try.func9, Try.ntmps9
    go_wp2_with (first | ((with_reducible refine gate_dst (N := 6) rfl ?_); refine box_event ?hg (N := 6) ?hd (cs := #[.bool a1_0, .bool a1_1]) (t := 38) ?hr ?_; (case hd => rfl); (case hg => rfl); (case hr => first | (go_simp; done) | (go_simp; rfl)); intro gb211 hg w8 hbox hb; have n0_ := Aside0.mk (below_step (by repeat (first | (with_reducible first | exact HB.out | apply below_alloc | apply pw_below_drewN | apply below_drew1) | exact HB.out)) hb); have n1_ := Aside0.mk (hbox); have n2_ := Aside0.mk ((by rw [hg]; exact (below_size (by repeat (first | (with_reducible first | exact HB.out | apply below_alloc | apply pw_below_drewN | apply below_drew1) | exact HB.out))) : w.heap.size ≤ gb211)); have n3_ := Aside0.mk ((by rw [hg]; exact (below_size (by repeat (first | (with_reducible first | exact HB.out | apply below_alloc | apply pw_below_drewN | apply below_drew1) | exact HB.out))) : w.heap.size ≤ gb211)); clear HB; have HB := n0_; have BK211 := n1_; have GW211 := n2_; have GE211 := n3_; clear n0_ n1_ n2_ n3_; clear hb hbox hg) | ((with_reducible refine gate_callee (f := 26) rfl ?_); refine goesL_ (some 26) rfl rfl Try.func26 (by kernel_rfl) rfl #[] rfl (by (try simp only [List.map_toArray, List.map_cons, List.map_nil]); first | done | rfl | (simp only [List.length_drop, List.length_take]; rfl)) ?_; (with_reducible refine (halyardlaw06_alive.calls  t212 _ A7.out).mono ?_); rintro e w9 ⟨rfl, hb⟩; refine ⟨_, rfl, ?_⟩; have n0_ := Aside0.mk (blk_below (g := gb211) (o := .cells #[.bool a1_0, .bool a1_1] 38 (0, 0)) (by (with_reducible repeat (first | refine blk_drewN ?_ _ | refine blk_drew ?_ | refine blk_alloc ?_ _)); exact BK211.out) hb); have n1_ := Aside0.mk (below_step (by repeat (first | (with_reducible first | exact HB.out | apply below_alloc | apply pw_below_drewN | apply below_drew1 | refine below_set ?_ GE211.out) | exact HB.out)) hb); clear BK211; clear HB; have BK211 := n0_; have HB := n1_; clear n0_ n1_; (try clear hb); (try clear hb2); (try clear hk); (try clear hi)))
    go_ret
    exact ⟨by first | rfl | (simp [errW_none, errW_some] <;> rfl) | (simp [*, errW_none, errW_some] <;> rfl), by repeat (first | (with_reducible first | exact HB.out | apply below_alloc | apply pw_below_drewN | apply below_drew1 | refine below_set ?_ GE211.out) | exact HB.out)⟩
  · rw [if_neg c6] at H
    have c6b0 : decide (16384 < (wrap64 ((a2.size : Int) + (a3.size : Int)))) = false := decide_eq_false c6
    clear c6
    replace H := Option.bind_eq_some_iff.mp H
    obtain ⟨⟨t213, t214⟩, A100, H⟩ := H
    replace H : (if t214 = 0 then (halyardlaw06_FieldEnds.j0 k a0 a2 a3 a4 t213 t214 (t213.toList == ([] : List UInt8))) else (halyardlaw06_FieldEnds.j0 k a0 a2 a3 a4 t213 t214 true)) = some r := H
    have A10 := Aside0.mk A100
    clear A100
    have HC11 := Aside0.mk H
    clear H
    go_enter Try.func9, Try.ntmps9
    go_upto_region 4 with (first | ((with_reducible refine gate_dst (N := 6) rfl ?_); refine box_event ?hg (N := 6) ?hd (cs := #[.bool a1_0, .bool a1_1]) (t := 38) ?hr ?_; (case hd => rfl); (case hg => rfl); (case hr => first | (go_simp; done) | (go_simp; rfl)); intro gb211 hg w12 hbox hb; have n0_ := Aside0.mk (below_step (by repeat (first | (with_reducible first | exact HB.out | apply below_alloc | apply pw_below_drewN | apply below_drew1) | exact HB.out)) hb); have n1_ := Aside0.mk (hbox); have n2_ := Aside0.mk ((by rw [hg]; exact (below_size (by repeat (first | (with_reducible first | exact HB.out | apply below_alloc | apply pw_below_drewN | apply below_drew1) | exact HB.out))) : w.heap.size ≤ gb211)); have n3_ := Aside0.mk ((by rw [hg]; exact (below_size (by repeat (first | (with_reducible first | exact HB.out | apply below_alloc | apply pw_below_drewN | apply below_drew1) | exact HB.out))) : w.heap.size ≤ gb211)); clear HB; have HB := n0_; have BK211 := n1_; have GW211 := n2_; have GE211 := n3_; clear n0_ n1_ n2_ n3_; clear hb hbox hg; have hcz13_0 : w12.cell? ⟨gb211, 0, none⟩ = some (.bool a1_0) := (blk_cell BK211.out 0).trans rfl; have hcz13_1 : w12.cell? ⟨gb211, 1, none⟩ = some (.bool a1_1) := (blk_cell BK211.out 1).trans rfl; have hfz13_0 := blk_frozen BK211.out 0; have hfz13_1 := blk_frozen BK211.out 1) | ((with_reducible refine gate_callee (f := 27) rfl ?_); refine goesL_ (some 30) rfl rfl Try.func27 (by kernel_rfl) rfl #[.int .u16 a0, .string (⟨#[]⟩ : ByteArray), .agg #[.bool a1_0, .bool a1_1]] rfl (by (try simp only [List.map_toArray, List.map_cons, List.map_nil]); first | done | rfl | (simp only [List.length_drop, List.length_take]; rfl)) ?_; (with_reducible refine (field_Put.calls a0 (⟨#[]⟩ : ByteArray) a1_0 a1_1 t213 t214 _ A10.out).mono ?_); rintro e w14 ⟨rfl, hb⟩; refine ⟨_, rfl, ?_⟩; have n0_ := Aside0.mk (blk_below (g := gb211) (o := .cells #[.bool a1_0, .bool a1_1] 38 (0, 0)) (by (with_reducible repeat (first | refine blk_drewN ?_ _ | refine blk_drew ?_ | refine blk_alloc ?_ _)); exact BK211.out) hb); have n1_ := Aside0.mk (below_step (by repeat (first | (with_reducible first | exact HB.out | apply below_alloc | apply pw_below_drewN | apply below_drew1 | refine below_set ?_ GE211.out) | exact HB.out)) hb); clear BK211; clear HB; have BK211 := n0_; have HB := n1_; clear n0_ n1_; (try clear hb); (try clear hb2); (try clear hk); (try clear hi)))
    (try simp only [Act.put, List.setIfInBounds_toArray, List.set_cons_zero, List.set_cons_succ])
    go_cut [38] (fun v38 wc => ∃ (kq : Nat) (x38_10 : Bool), v38 = .bool x38_10 ∧ Aside0 (halyardlaw06_FieldEnds.j0 kq a0 a2 a3 a4 t213 t214 x38_10 = some r) ∧ Aside0 (kq ≤ k) ∧ Aside0 (wc.heap[gb211]? = some (.cells #[.bool a1_0, .bool a1_1] 38 (0, 0))) ∧ Aside0 (Below w.heap.size w wc))
    case first =>
      have H := HC11.out
      clear HC11
      by_cases c15 : t214 = 0
      · rw [if_pos c15] at H
        have c15b0 : (t214 == 0) = true := beq_iff_eq.mpr c15
        have c15b1 : (t214 != 0) = false := bne_eq_false_iff_eq.mpr c15
        clear c15
        (first | rw [c15b0] | (simp only [i64_w, i32_w]; rw [c15b0]) | skip)
        have H' := Aside0.mk H
        clear H
        go_wp2
        go_meet
        case rel => exact ⟨_, ((t213.toList == ([] : List UInt8))), (by first | rfl | (simp; done) | (simp [*]; done)), H', ⟨by first | omega | exact Nat.le_refl _⟩, ⟨by (with_reducible repeat (first | refine blk_drewN ?_ _ | refine blk_drew ?_ | refine blk_alloc ?_ _)); exact BK211.out⟩, ⟨by repeat (first | (with_reducible first | exact HB.out | apply below_alloc | apply pw_below_drewN | apply below_drew1 | refine below_set ?_ GE211.out) | exact HB.out)⟩⟩
      · rw [if_neg c15] at H
        have c15b0 : (t214 == 0) = false := beq_eq_false_iff_ne.mpr c15
        have c15b1 : (t214 != 0) = true := bne_iff_ne.mpr c15
        (first | rw [c15b0] | (simp only [i64_w, i32_w]; rw [c15b0]) | skip)
        have H' := Aside0.mk H
        clear H
        go_wp2
        go_meet
        case rel => exact ⟨_, (true), (by first | rfl | (simp; done) | (simp [*]; done)), H', ⟨by first | omega | exact Nat.le_refl _⟩, ⟨by (with_reducible repeat (first | refine blk_drewN ?_ _ | refine blk_drew ?_ | refine blk_alloc ?_ _)); exact BK211.out⟩, ⟨by repeat (first | (with_reducible first | exact HB.out | apply below_alloc | apply pw_below_drewN | apply below_drew1 | refine below_set ?_ GE211.out) | exact HB.out)⟩⟩
    case rest =>
      clear HC11
      try clear c1
      try clear c2
      try clear p2
      try clear c6
      try clear c6b0
      try clear p6
      try clear c9
      try clear c15
      try clear c15b0
      try clear c15b1
      try clear hcz13_0
      try clear hcz13_1
      try clear hfz13_0
      try clear hfz13_1
      obtain ⟨kq, x38_10, rfl, HA, HJ10, BK211, HB⟩ := hcut
      cases kq with
      | zero => exact absurd HA.out (by simp [halyardlaw06_FieldEnds.j0])
      | succ kj10 =>
        have H := HA.out
        clear HA
        simp only [halyardlaw06_FieldEnds.j0] at H
        by_cases c16 : x38_10 = true
        · subst c16
          have H1 : (if t214 = 2 then ((halyardlaw06_alive.f).bind fun t215 => (some t215)) else (some false)) = some r := by rw [if_pos rfl] at H; exact H
          clear H
          have H := H1
          clear H1
          by_cases c17 : t214 = 2
          · rw [if_pos c17] at H
            have c17b0 : (t214 == 2) = true := beq_iff_eq.mpr c17
            have c17b1 : (t214 != 2) = false := bne_eq_false_iff_eq.mpr c17
            clear c17
            replace H := Option.bind_eq_some_iff.mp H
            obtain ⟨t215, A180, H⟩ := H
            replace H : (some t215) = some r := H
            have A18 := Aside0.mk A180
            clear A180
            obtain rfl := Option.some.inj H
            go_wp2_with (first | (go_at_call 26; (with_reducible refine (halyardlaw06_alive.calls  t215 _ A18.out).mono ?_); rintro e w19 ⟨rfl, hb⟩; have n0_ := Aside0.mk (blk_below (g := gb211) (o := .cells #[.bool a1_0, .bool a1_1] 38 (0, 0)) (by (with_reducible repeat (first | refine blk_drewN ?_ _ | refine blk_drew ?_ | refine blk_alloc ?_ _)); exact BK211.out) hb); have n1_ := Aside0.mk (below_step (by repeat (first | (with_reducible first | exact HB.out | apply below_alloc | apply pw_below_drewN | apply below_drew1 | refine below_set ?_ GE211.out) | exact HB.out)) hb); clear BK211; clear HB; have BK211 := n0_; have HB := n1_; clear n0_ n1_; (try clear hb); (try clear hb2); (try clear hk); (try clear hi)))
            go_ret
            exact ⟨by first | rfl | (simp [errW_none, errW_some] <;> rfl) | (simp [*, errW_none, errW_some] <;> rfl), by repeat (first | (with_reducible first | exact HB.out | apply below_alloc | apply pw_below_drewN | apply below_drew1 | refine below_set ?_ GE211.out) | exact HB.out)⟩
          · rw [if_neg c17] at H
            have c17b0 : (t214 == 2) = false := beq_eq_false_iff_ne.mpr c17
            have c17b1 : (t214 != 2) = true := bne_iff_ne.mpr c17
            obtain rfl := Option.some.inj H
            go_wp2
            go_ret
            exact ⟨by first | rfl | (simp [errW_none, errW_some] <;> rfl) | (simp [*, errW_none, errW_some] <;> rfl), by repeat (first | (with_reducible first | exact HB.out | apply below_alloc | apply pw_below_drewN | apply below_drew1 | refine below_set ?_ GE211.out) | exact HB.out)⟩
        · replace c16 := Bool.eq_false_iff.mpr c16
          subst c16
          have H1 : (if (t213.size : Int) = 0 then (none) else (if 0 ≤ (Int.tmod (wrap64 (a4)) (t213.size : Int)) then (if (Int.tmod (wrap64 (a4)) (t213.size : Int)) ≤ (t213.size : Int) then ((field_Get.f (t213.extract 0 ((Int.tmod (wrap64 (a4)) (t213.size : Int)) : Int).toNat)).bind fun bt216 => (if t213.size + a2.size ≤ 9223372036854775807 then (if (t213 ++ a2).size + a3.size ≤ 9223372036854775807 then ((field_Get.f ((t213 ++ a2) ++ a3)).bind fun bt219 => (if bt219.2.2 = 0 then (if bt219.1 = a0 then (if a2.size + a3.size ≤ 9223372036854775807 then (halyardlaw06_FieldEnds.j1 kj10 t213 (Int.tmod (wrap64 (a4)) (t213.size : Int)) bt216.1 bt216.2.1 bt216.2.2 (bt219.2.1.toList != (a2 ++ a3).toList)) else (none)) else (halyardlaw06_FieldEnds.j1 kj10 t213 (Int.tmod (wrap64 (a4)) (t213.size : Int)) bt216.1 bt216.2.1 bt216.2.2 true)) else (halyardlaw06_FieldEnds.j1 kj10 t213 (Int.tmod (wrap64 (a4)) (t213.size : Int)) bt216.1 bt216.2.1 bt216.2.2 true))) else (none)) else (none))) else (none)) else (none))) = some r := by rw [if_neg (show ¬ (false = true) by decide)] at H; exact H
          clear H
          have H := H1
          clear H1
          by_cases c20 : (t213.size : Int) = 0
          · rw [if_pos c20] at H
            exact absurd H (by simp)
          · rw [if_neg c20] at H
            have c20b0 : ((t213.size : Int) == 0) = false := beq_eq_false_iff_ne.mpr c20
            have c20e0 : (t213 = ByteArray.empty) = False := eq_false (fun h_ => c20 (by rw [h_]; rfl))
            have c20b1 : ((t213.size : Int) != 0) = true := bne_iff_ne.mpr c20
            obtain ⟨ji21, hji21⟩ : ∃ j_ : Int, (Int.tmod (wrap64 (a4)) (t213.size : Int)) = j_ := ⟨_, rfl⟩
            replace H : (if 0 ≤ (ji21) then (if (ji21) ≤ (t213.size : Int) then ((field_Get.f (t213.extract 0 ((ji21) : Int).toNat)).bind fun bt216 => (if t213.size + a2.size ≤ 9223372036854775807 then (if (t213 ++ a2).size + a3.size ≤ 9223372036854775807 then ((field_Get.f ((t213 ++ a2) ++ a3)).bind fun bt219 => (if bt219.2.2 = 0 then (if bt219.1 = a0 then (if a2.size + a3.size ≤ 9223372036854775807 then (halyardlaw06_FieldEnds.j1 kj10 t213 ji21 bt216.1 bt216.2.1 bt216.2.2 (bt219.2.1.toList != (a2 ++ a3).toList)) else (none)) else (halyardlaw06_FieldEnds.j1 kj10 t213 ji21 bt216.1 bt216.2.1 bt216.2.2 true)) else (halyardlaw06_FieldEnds.j1 kj10 t213 ji21 bt216.1 bt216.2.1 bt216.2.2 true))) else (none)) else (none))) else (none)) else (none)) = some r := by first | (rw [hji21] at H; exact H) | (simp only [hji21] at H ⊢; exact H)
            by_cases c22 : 0 ≤ (ji21)
            · rw [if_pos c22] at H
              have c22b0 := eq_true c22
              have c22b1 : decide (0 ≤ (ji21)) = true := decide_eq_true c22
              clear c22
              by_cases c23 : (ji21) ≤ (t213.size : Int)
              · rw [if_pos c23] at H
                have c23b0 := eq_true c23
                have c23b1 : decide ((ji21) ≤ (t213.size : Int)) = true := decide_eq_true c23
                clear c23
                replace H := Option.bind_eq_some_iff.mp H
                obtain ⟨⟨t216, t217, t218⟩, A240, H⟩ := H
                replace H : (if t213.size + a2.size ≤ 9223372036854775807 then (if (t213 ++ a2).size + a3.size ≤ 9223372036854775807 then ((field_Get.f ((t213 ++ a2) ++ a3)).bind fun bt219 => (if bt219.2.2 = 0 then (if bt219.1 = a0 then (if a2.size + a3.size ≤ 9223372036854775807 then (halyardlaw06_FieldEnds.j1 kj10 t213 ji21 t216 t217 t218 (bt219.2.1.toList != (a2 ++ a3).toList)) else (none)) else (halyardlaw06_FieldEnds.j1 kj10 t213 ji21 t216 t217 t218 true)) else (halyardlaw06_FieldEnds.j1 kj10 t213 ji21 t216 t217 t218 true))) else (none)) else (none)) = some r := H
                have A24 := Aside0.mk A240
                clear A240
                by_cases c25 : t213.size + a2.size ≤ 9223372036854775807
                · rw [if_pos c25] at H
                  have c25b0 := eq_true c25
                  have c25b1 : decide (t213.size + a2.size ≤ 9223372036854775807) = true := decide_eq_true c25
                  try have c25b2 : (9223372036854775807 < t213.size + a2.size) = False := eq_false (Nat.not_lt.2 c25)
                  by_cases c26 : (t213 ++ a2).size + a3.size ≤ 9223372036854775807
                  · rw [if_pos c26] at H
                    have c26b0 := eq_true c26
                    have c26b1 : decide ((t213 ++ a2).size + a3.size ≤ 9223372036854775807) = true := decide_eq_true c26
                    try have c26b2 : (9223372036854775807 < (t213 ++ a2).size + a3.size) = False := eq_false (Nat.not_lt.2 c26)
                    replace H := Option.bind_eq_some_iff.mp H
                    obtain ⟨⟨t219, t220, t221⟩, A270, H⟩ := H
                    replace H : (if t221 = 0 then (if t219 = a0 then (if a2.size + a3.size ≤ 9223372036854775807 then (halyardlaw06_FieldEnds.j1 kj10 t213 ji21 t216 t217 t218 (t220.toList != (a2 ++ a3).toList)) else (none)) else (halyardlaw06_FieldEnds.j1 kj10 t213 ji21 t216 t217 t218 true)) else (halyardlaw06_FieldEnds.j1 kj10 t213 ji21 t216 t217 t218 true)) = some r := H
                    have A27 := Aside0.mk A270
                    clear A270
                    have HC28 := Aside0.mk H
                    clear H
                    go_upto_region 9 with (first | ((with_reducible refine gate_callee (f := 29) rfl ?_); refine goesL_ (some 53) rfl rfl Try.func29 (by kernel_rfl) rfl #[.string (t213.extract 0 ((ji21) : Int).toNat)] rfl (by (try simp only [List.map_toArray, List.map_cons, List.map_nil]); first | done | (simp only [hji21]; rfl) | rfl | (simp only [List.length_drop, List.length_take]; rfl)) ?_; (with_reducible refine (field_Get.calls (t213.extract 0 ((ji21) : Int).toNat) t216 t217 t218 _ A24.out).mono ?_); rintro e w29 ⟨rfl, hb⟩; refine ⟨_, rfl, ?_⟩; have n0_ := Aside0.mk (blk_below (g := gb211) (o := .cells #[.bool a1_0, .bool a1_1] 38 (0, 0)) (by (with_reducible repeat (first | refine blk_drewN ?_ _ | refine blk_drew ?_ | refine blk_alloc ?_ _)); exact BK211.out) hb); have n1_ := Aside0.mk (below_step (by repeat (first | (with_reducible first | exact HB.out | apply below_alloc | apply pw_below_drewN | apply below_drew1 | refine below_set ?_ GE211.out) | exact HB.out)) hb); clear BK211; clear HB; have BK211 := n0_; have HB := n1_; clear n0_ n1_; (try clear hb); (try clear hb2); (try clear hk); (try clear hi)) | ((with_reducible refine gate_callee (f := 29) rfl ?_); refine goesL_ (some 63) rfl rfl Try.func29 (by kernel_rfl) rfl #[.string ((t213 ++ a2) ++ a3)] rfl (by (try simp only [List.map_toArray, List.map_cons, List.map_nil]); first | done | rfl | (simp only [List.length_drop, List.length_take]; rfl)) ?_; (with_reducible refine (field_Get.calls ((t213 ++ a2) ++ a3) t219 t220 t221 _ A27.out).mono ?_); rintro e w30 ⟨rfl, hb⟩; refine ⟨_, rfl, ?_⟩; have n0_ := Aside0.mk (blk_below (g := gb211) (o := .cells #[.bool a1_0, .bool a1_1] 38 (0, 0)) (by (with_reducible repeat (first | refine blk_drewN ?_ _ | refine blk_drew ?_ | refine blk_alloc ?_ _)); exact BK211.out) hb); have n1_ := Aside0.mk (below_step (by repeat (first | (with_reducible first | exact HB.out | apply below_alloc | apply pw_below_drewN | apply below_drew1 | refine below_set ?_ GE211.out) | exact HB.out)) hb); clear BK211; clear HB; have BK211 := n0_; have HB := n1_; clear n0_ n1_; (try clear hb); (try clear hb2); (try clear hk); (try clear hi)))
                    (try simp only [Act.put, List.setIfInBounds_toArray, List.set_cons_zero, List.set_cons_succ])
                    go_cut [80] (fun v80 wc => ∃ (kq : Nat) (x80_27 : Bool), v80 = .bool x80_27 ∧ Aside0 (halyardlaw06_FieldEnds.j1 kq t213 ji21 t216 t217 t218 x80_27 = some r) ∧ Aside0 (kq ≤ kj10) ∧ Aside0 (wc.heap[gb211]? = some (.cells #[.bool a1_0, .bool a1_1] 38 (0, 0))) ∧ Aside0 (Below w.heap.size w wc))
                    case first =>
                      have H := HC28.out
                      clear HC28
                      by_cases c31 : t221 = 0
                      · rw [if_pos c31] at H
                        have c31b0 : (t221 == 0) = true := beq_iff_eq.mpr c31
                        have c31b1 : (t221 != 0) = false := bne_eq_false_iff_eq.mpr c31
                        clear c31
                        (first | rw [c31b0] | (simp only [i64_w, i32_w]; rw [c31b0]) | skip)
                        by_cases c32 : t219 = a0
                        · rw [if_pos c32] at H
                          have c32b0 : (t219 == a0) = true := beq_iff_eq.mpr c32
                          have c32b1 : (t219 != a0) = false := bne_eq_false_iff_eq.mpr c32
                          clear c32
                          by_cases c33 : a2.size + a3.size ≤ 9223372036854775807
                          · rw [if_pos c33] at H
                            have c33b0 := eq_true c33
                            have c33b1 : decide (a2.size + a3.size ≤ 9223372036854775807) = true := decide_eq_true c33
                            try have c33b2 : (9223372036854775807 < a2.size + a3.size) = False := eq_false (Nat.not_lt.2 c33)
                            have H' := Aside0.mk H
                            clear H
                            go_wp2
                            go_meet
                            case rel => exact ⟨_, ((t220.toList != (a2 ++ a3).toList)), (by first | rfl | (simp; done) | (simp [*]; done)), H', ⟨by have := HJ10.out; first | omega | exact Nat.le_refl _⟩, ⟨by (with_reducible repeat (first | refine blk_drewN ?_ _ | refine blk_drew ?_ | refine blk_alloc ?_ _)); exact BK211.out⟩, ⟨by repeat (first | (with_reducible first | exact HB.out | apply below_alloc | apply pw_below_drewN | apply below_drew1 | refine below_set ?_ GE211.out) | exact HB.out)⟩⟩
                          · rw [if_neg c33] at H
                            exact absurd H (by simp)
                        · rw [if_neg c32] at H
                          have c32b0 : (t219 == a0) = false := beq_eq_false_iff_ne.mpr c32
                          have c32b1 : (t219 != a0) = true := bne_iff_ne.mpr c32
                          have H' := Aside0.mk H
                          clear H
                          go_wp2
                          go_meet
                          case rel => exact ⟨_, (true), (by first | rfl | (simp; done) | (simp [*]; done)), H', ⟨by have := HJ10.out; first | omega | exact Nat.le_refl _⟩, ⟨by (with_reducible repeat (first | refine blk_drewN ?_ _ | refine blk_drew ?_ | refine blk_alloc ?_ _)); exact BK211.out⟩, ⟨by repeat (first | (with_reducible first | exact HB.out | apply below_alloc | apply pw_below_drewN | apply below_drew1 | refine below_set ?_ GE211.out) | exact HB.out)⟩⟩
                      · rw [if_neg c31] at H
                        have c31b0 : (t221 == 0) = false := beq_eq_false_iff_ne.mpr c31
                        have c31b1 : (t221 != 0) = true := bne_iff_ne.mpr c31
                        (first | rw [c31b0] | (simp only [i64_w, i32_w]; rw [c31b0]) | skip)
                        have H' := Aside0.mk H
                        clear H
                        go_wp2
                        go_meet
                        case rel => exact ⟨_, (true), (by first | rfl | (simp; done) | (simp [*]; done)), H', ⟨by have := HJ10.out; first | omega | exact Nat.le_refl _⟩, ⟨by (with_reducible repeat (first | refine blk_drewN ?_ _ | refine blk_drew ?_ | refine blk_alloc ?_ _)); exact BK211.out⟩, ⟨by repeat (first | (with_reducible first | exact HB.out | apply below_alloc | apply pw_below_drewN | apply below_drew1 | refine below_set ?_ GE211.out) | exact HB.out)⟩⟩
                    case rest =>
                      clear HC28
                      try clear c1
                      try clear c2
                      try clear p2
                      try clear c3
                      try clear c6
                      try clear c6b0
                      try clear p6
                      try clear c9
                      try clear c15
                      try clear c15b0
                      try clear c15b1
                      try clear c16
                      try clear c17
                      try clear c17b0
                      try clear c17b1
                      try clear c20
                      try clear c20b0
                      try clear c20b1
                      try clear c22
                      try clear c22b0
                      try clear c22b1
                      try clear c23
                      try clear c23b0
                      try clear c23b1
                      try clear c25
                      try clear c25b0
                      try clear c25b1
                      try clear c25b2
                      try clear c26
                      try clear c26b0
                      try clear c26b1
                      try clear c26b2
                      try clear c27
                      try clear c29
                      try clear c31
                      try clear c31b0
                      try clear c31b1
                      try clear c32
                      try clear c32b0
                      try clear c32b1
                      try clear c33
                      try clear c33b0
                      try clear c33b1
                      try clear c33b2
                      try clear hcz13_0
                      try clear hcz13_1
                      try clear hfz13_0
                      try clear hfz13_1
                      try clear p2
                      try clear p6
                      obtain ⟨kq, x80_27, rfl, HA, HJ27, BK211, HB⟩ := hcut
                      cases kq with
                      | zero => exact absurd HA.out (by simp [halyardlaw06_FieldEnds.j1])
                      | succ kj27 =>
                        have H := HA.out
                        clear HA
                        simp only [halyardlaw06_FieldEnds.j1] at H
                        by_cases c34 : x80_27 = true
                        · subst c34
                          have H1 : (some false) = some r := by rw [if_pos rfl] at H; exact H
                          clear H
                          have H := H1
                          clear H1
                          obtain rfl := Option.some.inj H
                          go_wp2
                          go_ret
                          exact ⟨by first | rfl | (simp [errW_none, errW_some] <;> rfl) | (simp only [← hji21]; first | rfl | (simp [errW_none, errW_some] <;> rfl)) | (simp [*, errW_none, errW_some] <;> rfl), by repeat (first | (with_reducible first | exact HB.out | apply below_alloc | apply pw_below_drewN | apply below_drew1 | refine below_set ?_ GE211.out) | exact HB.out)⟩
                        · replace c34 := Bool.eq_false_iff.mpr c34
                          subst c34
                          have H1 : (if ji21 = 1 then (if 0 < (t213.size : Int) then (halyardlaw06_FieldEnds.j2 kj27 t216 t217 t218 ((bt t213 0) == 255)) else (none)) else (halyardlaw06_FieldEnds.j2 kj27 t216 t217 t218 false)) = some r := by rw [if_neg (show ¬ (false = true) by decide)] at H; exact H
                          clear H
                          have H := H1
                          clear H1
                          have HC35 := Aside0.mk H
                          clear H
                          go_upto_region 11 with (fail)
                          go_cut [87] (fun v87 wc => ∃ (kq : Nat) (x87_34 : Bool), v87 = .bool x87_34 ∧ Aside0 (halyardlaw06_FieldEnds.j2 kq t216 t217 t218 x87_34 = some r) ∧ Aside0 (kq ≤ kj27) ∧ Aside0 (wc.heap[gb211]? = some (.cells #[.bool a1_0, .bool a1_1] 38 (0, 0))) ∧ Aside0 (Below w.heap.size w wc))
                          case first =>
                            have H := HC35.out
                            clear HC35
                            by_cases c36 : ji21 = 1
                            · rw [if_pos c36] at H
                              have c36b0 : (ji21 == 1) = true := beq_iff_eq.mpr c36
                              have c36b1 : (ji21 != 1) = false := bne_eq_false_iff_eq.mpr c36
                              clear c36
                              (first | rw [c36b0] | (simp only [i64_w, i32_w]; rw [c36b0]) | skip)
                              by_cases c37 : 0 < (t213.size : Int)
                              · rw [if_pos c37] at H
                                have c37b0 : decide (0 < (t213.size : Int)) = true := decide_eq_true c37
                                have c37b1 : decide (0 < t213.size) = true := decide_eq_true (by omega)
                                clear c37
                                have H' := Aside0.mk H
                                clear H
                                have p38 : 0 ≤ (0 : Int) := (by omega)
                                have q38 : 0 < t213.size := (by have : (0 : Int) < (t213.size : Int) := of_decide_eq_true (by first | (with_reducible assumption) | assumption); omega)
                                have hx38 : ∀ h : 0 < t213.size, ((t213[0]'h).toNat : Int) = bt t213 0 := bt_at t213 0
                                clear p38
                                have qi38 : (0 < (t213.size : Int)) = True := eq_true (of_decide_eq_true (by first | (with_reducible assumption) | assumption))
                                replace q38 := eq_true q38
                                go_wp2
                                go_meet
                                case rel => exact ⟨_, (((bt t213 0) == 255)), (by first | rfl | (simp; done) | (simp [*]; done)), H', ⟨by have := HJ10.out; have := HJ27.out; first | omega | exact Nat.le_refl _⟩, ⟨by (with_reducible repeat (first | refine blk_drewN ?_ _ | refine blk_drew ?_ | refine blk_alloc ?_ _)); exact BK211.out⟩, ⟨by repeat (first | (with_reducible first | exact HB.out | apply below_alloc | apply pw_below_drewN | apply below_drew1 | refine below_set ?_ GE211.out) | exact HB.out)⟩⟩
                              · rw [if_neg c37] at H
                                exact absurd H (by simp)
                            · rw [if_neg c36] at H
                              have c36b0 : (ji21 == 1) = false := beq_eq_false_iff_ne.mpr c36
                              have c36b1 : (ji21 != 1) = true := bne_iff_ne.mpr c36
                              (first | rw [c36b0] | (simp only [i64_w, i32_w]; rw [c36b0]) | skip)
                              have H' := Aside0.mk H
                              clear H
                              go_wp2
                              go_meet
                              case rel => exact ⟨_, (false), (by first | rfl | (simp; done) | (simp [*]; done)), H', ⟨by have := HJ10.out; have := HJ27.out; first | omega | exact Nat.le_refl _⟩, ⟨by (with_reducible repeat (first | refine blk_drewN ?_ _ | refine blk_drew ?_ | refine blk_alloc ?_ _)); exact BK211.out⟩, ⟨by repeat (first | (with_reducible first | exact HB.out | apply below_alloc | apply pw_below_drewN | apply below_drew1 | refine below_set ?_ GE211.out) | exact HB.out)⟩⟩
                          case rest =>
                            clear HC35
                            try clear c1
                            try clear c2
                            try clear p2
                            try clear c3
                            try clear p3
                            try clear q3
                            try clear hx3
                            try clear qi3
                            try clear c6
                            try clear c6b0
                            try clear p6
                            try clear c9
                            try clear c15
                            try clear c15b0
                            try clear c15b1
                            try clear c16
                            try clear c17
                            try clear c17b0
                            try clear c17b1
                            try clear c20
                            try clear c20b0
                            try clear c20b1
                            try clear c22
                            try clear c22b0
                            try clear c22b1
                            try clear c23
                            try clear c23b0
                            try clear c23b1
                            try clear c25
                            try clear c25b0
                            try clear c25b1
                            try clear c25b2
                            try clear c26
                            try clear c26b0
                            try clear c26b1
                            try clear c26b2
                            try clear c27
                            try clear c29
                            try clear c31
                            try clear c31b0
                            try clear c31b1
                            try clear c32
                            try clear c32b0
                            try clear c32b1
                            try clear c33
                            try clear c33b0
                            try clear c33b1
                            try clear c33b2
                            try clear c34
                            try clear c36
                            try clear c36b0
                            try clear c36b1
                            try clear c37
                            try clear c37b0
                            try clear c37b1
                            try clear p38
                            try clear q38
                            try clear hx38
                            try clear qi38
                            try clear hcz13_0
                            try clear hcz13_1
                            try clear hfz13_0
                            try clear hfz13_1
                            try clear p2
                            try clear p38
                            try clear p6
                            try clear q38
                            obtain ⟨kq, x87_34, rfl, HA, HJ34, BK211, HB⟩ := hcut
                            cases kq with
                            | zero => exact absurd HA.out (by simp [halyardlaw06_FieldEnds.j2])
                            | succ kj34 =>
                              have H := HA.out
                              clear HA
                              simp only [halyardlaw06_FieldEnds.j2] at H
                              by_cases c39 : x87_34 = true
                              · subst c39
                                have H1 : (if t218 = 7 then ((halyardlaw06_alive.f).bind fun t222 => (some t222)) else (some false)) = some r := by rw [if_pos rfl] at H; exact H
                                clear H
                                have H := H1
                                clear H1
                                by_cases c40 : t218 = 7
                                · rw [if_pos c40] at H
                                  have c40b0 : (t218 == 7) = true := beq_iff_eq.mpr c40
                                  have c40b1 : (t218 != 7) = false := bne_eq_false_iff_eq.mpr c40
                                  clear c40
                                  replace H := Option.bind_eq_some_iff.mp H
                                  obtain ⟨t222, A410, H⟩ := H
                                  replace H : (some t222) = some r := H
                                  have A41 := Aside0.mk A410
                                  clear A410
                                  obtain rfl := Option.some.inj H
                                  go_wp2_with (first | (go_at_call 26; (with_reducible refine (halyardlaw06_alive.calls  t222 _ A41.out).mono ?_); rintro e w42 ⟨rfl, hb⟩; have n0_ := Aside0.mk (blk_below (g := gb211) (o := .cells #[.bool a1_0, .bool a1_1] 38 (0, 0)) (by (with_reducible repeat (first | refine blk_drewN ?_ _ | refine blk_drew ?_ | refine blk_alloc ?_ _)); exact BK211.out) hb); have n1_ := Aside0.mk (below_step (by repeat (first | (with_reducible first | exact HB.out | apply below_alloc | apply pw_below_drewN | apply below_drew1 | refine below_set ?_ GE211.out) | exact HB.out)) hb); clear BK211; clear HB; have BK211 := n0_; have HB := n1_; clear n0_ n1_; (try clear hb); (try clear hb2); (try clear hk); (try clear hi)))
                                  go_ret
                                  exact ⟨by first | rfl | (simp [errW_none, errW_some] <;> rfl) | (simp only [← hji21]; first | rfl | (simp [errW_none, errW_some] <;> rfl)) | (simp [*, errW_none, errW_some] <;> rfl), by repeat (first | (with_reducible first | exact HB.out | apply below_alloc | apply pw_below_drewN | apply below_drew1 | refine below_set ?_ GE211.out) | exact HB.out)⟩
                                · rw [if_neg c40] at H
                                  have c40b0 : (t218 == 7) = false := beq_eq_false_iff_ne.mpr c40
                                  have c40b1 : (t218 != 7) = true := bne_iff_ne.mpr c40
                                  obtain rfl := Option.some.inj H
                                  go_wp2
                                  go_ret
                                  exact ⟨by first | rfl | (simp [errW_none, errW_some] <;> rfl) | (simp only [← hji21]; first | rfl | (simp [errW_none, errW_some] <;> rfl)) | (simp [*, errW_none, errW_some] <;> rfl), by repeat (first | (with_reducible first | exact HB.out | apply below_alloc | apply pw_below_drewN | apply below_drew1 | refine below_set ?_ GE211.out) | exact HB.out)⟩
                              · replace c39 := Bool.eq_false_iff.mpr c39
                                subst c39
                                have H1 : (if t216 = 0 then (if t217.toList = ([] : List UInt8) then (if t218 = 6 then ((halyardlaw06_alive.f).bind fun t223 => (some t223)) else (some false)) else (some false)) else (some false)) = some r := by rw [if_neg (show ¬ (false = true) by decide)] at H; exact H
                                clear H
                                have H := H1
                                clear H1
                                by_cases c43 : t216 = 0
                                · rw [if_pos c43] at H
                                  have c43b0 : (t216 == 0) = true := beq_iff_eq.mpr c43
                                  have c43b1 : (t216 != 0) = false := bne_eq_false_iff_eq.mpr c43
                                  clear c43
                                  by_cases c44 : t217.toList = ([] : List UInt8)
                                  · rw [if_pos c44] at H
                                    have c44b0 : (t217.toList == ([] : List UInt8)) = true := beq_iff_eq.mpr c44
                                    have c44b1 : (t217.toList != ([] : List UInt8)) = false := bne_eq_false_iff_eq.mpr c44
                                    clear c44
                                    by_cases c45 : t218 = 6
                                    · rw [if_pos c45] at H
                                      have c45b0 : (t218 == 6) = true := beq_iff_eq.mpr c45
                                      have c45b1 : (t218 != 6) = false := bne_eq_false_iff_eq.mpr c45
                                      clear c45
                                      replace H := Option.bind_eq_some_iff.mp H
                                      obtain ⟨t223, A460, H⟩ := H
                                      replace H : (some t223) = some r := H
                                      have A46 := Aside0.mk A460
                                      clear A460
                                      obtain rfl := Option.some.inj H
                                      go_wp2_with (first | (go_at_call 26; (with_reducible refine (halyardlaw06_alive.calls  t223 _ A46.out).mono ?_); rintro e w47 ⟨rfl, hb⟩; have n0_ := Aside0.mk (blk_below (g := gb211) (o := .cells #[.bool a1_0, .bool a1_1] 38 (0, 0)) (by (with_reducible repeat (first | refine blk_drewN ?_ _ | refine blk_drew ?_ | refine blk_alloc ?_ _)); exact BK211.out) hb); have n1_ := Aside0.mk (below_step (by repeat (first | (with_reducible first | exact HB.out | apply below_alloc | apply pw_below_drewN | apply below_drew1 | refine below_set ?_ GE211.out) | exact HB.out)) hb); clear BK211; clear HB; have BK211 := n0_; have HB := n1_; clear n0_ n1_; (try clear hb); (try clear hb2); (try clear hk); (try clear hi)))
                                      go_ret
                                      exact ⟨by first | rfl | (simp [errW_none, errW_some] <;> rfl) | (simp only [← hji21]; first | rfl | (simp [errW_none, errW_some] <;> rfl)) | (simp [*, errW_none, errW_some] <;> rfl), by repeat (first | (with_reducible first | exact HB.out | apply below_alloc | apply pw_below_drewN | apply below_drew1 | refine below_set ?_ GE211.out) | exact HB.out)⟩
                                    · rw [if_neg c45] at H
                                      have c45b0 : (t218 == 6) = false := beq_eq_false_iff_ne.mpr c45
                                      have c45b1 : (t218 != 6) = true := bne_iff_ne.mpr c45
                                      obtain rfl := Option.some.inj H
                                      go_wp2
                                      go_ret
                                      exact ⟨by first | rfl | (simp [errW_none, errW_some] <;> rfl) | (simp only [← hji21]; first | rfl | (simp [errW_none, errW_some] <;> rfl)) | (simp [*, errW_none, errW_some] <;> rfl), by repeat (first | (with_reducible first | exact HB.out | apply below_alloc | apply pw_below_drewN | apply below_drew1 | refine below_set ?_ GE211.out) | exact HB.out)⟩
                                  · rw [if_neg c44] at H
                                    have c44b0 : (t217.toList == ([] : List UInt8)) = false := beq_eq_false_iff_ne.mpr c44
                                    have c44b1 : (t217.toList != ([] : List UInt8)) = true := bne_iff_ne.mpr c44
                                    obtain rfl := Option.some.inj H
                                    go_wp2
                                    go_ret
                                    exact ⟨by first | rfl | (simp [errW_none, errW_some] <;> rfl) | (simp only [← hji21]; first | rfl | (simp [errW_none, errW_some] <;> rfl)) | (simp [*, errW_none, errW_some] <;> rfl), by repeat (first | (with_reducible first | exact HB.out | apply below_alloc | apply pw_below_drewN | apply below_drew1 | refine below_set ?_ GE211.out) | exact HB.out)⟩
                                · rw [if_neg c43] at H
                                  have c43b0 : (t216 == 0) = false := beq_eq_false_iff_ne.mpr c43
                                  have c43b1 : (t216 != 0) = true := bne_iff_ne.mpr c43
                                  obtain rfl := Option.some.inj H
                                  go_wp2
                                  go_ret
                                  exact ⟨by first | rfl | (simp [errW_none, errW_some] <;> rfl) | (simp only [← hji21]; first | rfl | (simp [errW_none, errW_some] <;> rfl)) | (simp [*, errW_none, errW_some] <;> rfl), by repeat (first | (with_reducible first | exact HB.out | apply below_alloc | apply pw_below_drewN | apply below_drew1 | refine below_set ?_ GE211.out) | exact HB.out)⟩
                  · rw [if_neg c26] at H
                    exact absurd H (by simp)
                · rw [if_neg c25] at H
                  exact absurd H (by simp)
              · rw [if_neg c23] at H
                exact absurd H (by simp)
            · rw [if_neg c22] at H
              exact absurd H (by simp)

end Go.Proofs.Ytdlpoemjgeehgaa.PG06
