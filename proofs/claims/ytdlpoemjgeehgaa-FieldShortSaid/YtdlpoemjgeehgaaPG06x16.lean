-- WRITTEN by wip/tools/hprint.py: the kit's print.py run over this translation, with functions proved by hand laid in. Lean checks it.
import Derived.Test.YtdlpoemjgeehgaaPG06x0
import Derived.Test.YtdlpoemjgeehgaaPG06x1
import Derived.Test.YtdlpoemjgeehgaaPG06x5
import Derived.Test.YtdlpoemjgeehgaaPG06x10
namespace Go.Proofs.Ytdlpoemjgeehgaa.PG06
open Go.RowKit Go.Proofs.YtdlpoemjgeehgaaW.PrintWords Go.Proofs.YtdlpoemjgeehgaaW.PrintLast Go.Proofs.YtdlpoemjgeehgaaW.PrintMore Go.Proofs.YtdlpoemjgeehgaaHW
attribute [local go_sem] max2_int min2_int max_two min_two max_three min_three max_four min_four   -- for this text's walks alone
set_option linter.unusedVariables false
set_option linter.unusedSimpArgs false

/-! ### halyardlaw06_FieldShort: function 8 -/
mutual
def halyardlaw06_FieldShort.j0 : Nat → Int → ByteArray → Bool → Option (Bool)
  | 0, _, _, _ => none
  | k + 1, x0, x1, x17 => if x17 = true then ((halyardlaw06_alive.f).bind fun t206 => (some t206)) else (halyardlaw06_FieldShort.l0 k x0 x1 0)
def halyardlaw06_FieldShort.l0 : Nat → Int → ByteArray → Int → Option (Bool)
  | 0, _, _, _ => none
  | k + 1, x0, x1, x5 => if x5 < 4 then ((field_Put.f x0 x1 ((Int.tmod x5 2) == 1) ((wrap64 (Int.tdiv x5 2)) == 1)).bind fun bt209 => (if (Int.tmod x5 2) = 1 then (halyardlaw06_FieldShort.j2 k x0 x1 x5 bt209.1 bt209.2 (wrap64 ((x1.size : Int) + 4)) (x0 != 49185) ((Int.tmod x5 2) == 1) ((wrap64 (Int.tdiv x5 2)) == 1)) else (halyardlaw06_FieldShort.j2 k x0 x1 x5 bt209.1 bt209.2 (wrap64 ((x1.size : Int) + 4)) false ((Int.tmod x5 2) == 1) ((wrap64 (Int.tdiv x5 2)) == 1)))) else ((halyardlaw06_alive.f).bind fun t207 => (some t207))
def halyardlaw06_FieldShort.j2 : Nat → Int → ByteArray → Int → ByteArray → Int → Int → Bool → Bool → Bool → Option (Bool)
  | 0, _, _, _, _, _, _, _, _, _ => none
  | k + 1, x0, x1, x5, x7, x8, x9, x45, x209000, x209001 => if x45 = true then (halyardlaw06_FieldShort.j3 k x0 x1 x5 x7 x8 (wrap64 (x9 - 2)) x209000 x209001) else (halyardlaw06_FieldShort.j3 k x0 x1 x5 x7 x8 x9 x209000 x209001)
def halyardlaw06_FieldShort.j3 : Nat → Int → ByteArray → Int → ByteArray → Int → Int → Bool → Bool → Option (Bool)
  | 0, _, _, _, _, _, _, _, _ => none
  | k + 1, x0, x1, x5, x7, x8, x9, x209000, x209001 => if x209001 = true then (halyardlaw06_FieldShort.j4 k x0 x1 x5 x7 x8 x9 (decide (x0 < 256))) else (halyardlaw06_FieldShort.j4 k x0 x1 x5 x7 x8 x9 false)
def halyardlaw06_FieldShort.j4 : Nat → Int → ByteArray → Int → ByteArray → Int → Int → Bool → Option (Bool)
  | 0, _, _, _, _, _, _, _ => none
  | k + 1, x0, x1, x5, x7, x8, x9, x53 => if x53 = true then (if x8 = 0 then (if (x7.size : Int) = (wrap64 (x9 - 1)) then (if 0 ≤ (wrap64 ((wrap64 (x9 - 1)) - (x1.size : Int))) then (if (wrap64 ((wrap64 (x9 - 1)) - (x1.size : Int))) ≤ (x7.size : Int) then (if (x7.extract ((wrap64 ((wrap64 (x9 - 1)) - (x1.size : Int))) : Int).toNat x7.size).toList = x1.toList then (halyardlaw06_FieldShort.l0 k x0 x1 (wrap64 (x5 + 1))) else (some false)) else (none)) else (none)) else (some false)) else (some false)) else (if x8 = 0 then (if (x7.size : Int) = x9 then (if 0 ≤ (wrap64 (x9 - (x1.size : Int))) then (if (wrap64 (x9 - (x1.size : Int))) ≤ (x7.size : Int) then (if (x7.extract ((wrap64 (x9 - (x1.size : Int))) : Int).toNat x7.size).toList = x1.toList then (halyardlaw06_FieldShort.l0 k x0 x1 (wrap64 (x5 + 1))) else (some false)) else (none)) else (none)) else (some false)) else (some false))
end
def halyardlaw06_FieldShort.f (k : Nat) (a0 : Int) (a1 : ByteArray) : Option (Bool) := if (a1.size : Int) > 16384 then (halyardlaw06_FieldShort.j0 k a0 a1 true) else ((field_May.f a0).bind fun t205 => (halyardlaw06_FieldShort.j0 k a0 a1 (!t205)))
theorem halyardlaw06_FieldShort.mono_l : ∀ k, (∀ y0 y1 y2, LeO (halyardlaw06_FieldShort.j0 k y0 y1 y2) (halyardlaw06_FieldShort.j0 (k + 1) y0 y1 y2)) ∧ (∀ y0 y1 y2, LeO (halyardlaw06_FieldShort.l0 k y0 y1 y2) (halyardlaw06_FieldShort.l0 (k + 1) y0 y1 y2)) ∧ (∀ y0 y1 y2 y3 y4 y5 y6 y7 y8, LeO (halyardlaw06_FieldShort.j2 k y0 y1 y2 y3 y4 y5 y6 y7 y8) (halyardlaw06_FieldShort.j2 (k + 1) y0 y1 y2 y3 y4 y5 y6 y7 y8)) ∧ (∀ y0 y1 y2 y3 y4 y5 y6 y7, LeO (halyardlaw06_FieldShort.j3 k y0 y1 y2 y3 y4 y5 y6 y7) (halyardlaw06_FieldShort.j3 (k + 1) y0 y1 y2 y3 y4 y5 y6 y7)) ∧ (∀ y0 y1 y2 y3 y4 y5 y6, LeO (halyardlaw06_FieldShort.j4 k y0 y1 y2 y3 y4 y5 y6) (halyardlaw06_FieldShort.j4 (k + 1) y0 y1 y2 y3 y4 y5 y6))
  | 0 => ⟨fun _ _ _ r h => by simp [halyardlaw06_FieldShort.j0] at h, fun _ _ _ r h => by simp [halyardlaw06_FieldShort.l0] at h, fun _ _ _ _ _ _ _ _ _ r h => by simp [halyardlaw06_FieldShort.j2] at h, fun _ _ _ _ _ _ _ _ r h => by simp [halyardlaw06_FieldShort.j3] at h, fun _ _ _ _ _ _ _ r h => by simp [halyardlaw06_FieldShort.j4] at h⟩
  | k + 1 => by
    obtain ⟨ih0, ih1, ih2, ih3, ih4⟩ := halyardlaw06_FieldShort.mono_l k
    refine ⟨?_, ?_, ?_, ?_, ?_⟩
    · intro y0 y1 y2
      unfold halyardlaw06_FieldShort.j0
      repeat' first
      | (with_reducible exact ih0 _ _ _)
      | (with_reducible exact ih1 _ _ _)
      | (with_reducible exact ih2 _ _ _ _ _ _ _ _ _)
      | (with_reducible exact ih3 _ _ _ _ _ _ _ _)
      | (with_reducible exact ih4 _ _ _ _ _ _ _)
      | (with_reducible exact LeO.refl _)
      | (with_reducible exact LeO.none _)
      | (with_reducible refine LeO.ite ?_ ?_)
      | (with_reducible refine LeO.bind ?_ (fun _ => ?_))
      | exact ih0 _ _ _
      | exact ih1 _ _ _
      | exact ih2 _ _ _ _ _ _ _ _ _
      | exact ih3 _ _ _ _ _ _ _ _
      | exact ih4 _ _ _ _ _ _ _
      | exact LeO.none _
      | refine LeO.ite ?_ ?_
      | refine LeO.bind ?_ (fun _ => ?_)
    · intro y0 y1 y2
      unfold halyardlaw06_FieldShort.l0
      repeat' first
      | (with_reducible exact ih0 _ _ _)
      | (with_reducible exact ih1 _ _ _)
      | (with_reducible exact ih2 _ _ _ _ _ _ _ _ _)
      | (with_reducible exact ih3 _ _ _ _ _ _ _ _)
      | (with_reducible exact ih4 _ _ _ _ _ _ _)
      | (with_reducible exact LeO.refl _)
      | (with_reducible exact LeO.none _)
      | (with_reducible refine LeO.ite ?_ ?_)
      | (with_reducible refine LeO.bind ?_ (fun _ => ?_))
      | exact ih0 _ _ _
      | exact ih1 _ _ _
      | exact ih2 _ _ _ _ _ _ _ _ _
      | exact ih3 _ _ _ _ _ _ _ _
      | exact ih4 _ _ _ _ _ _ _
      | exact LeO.none _
      | refine LeO.ite ?_ ?_
      | refine LeO.bind ?_ (fun _ => ?_)
    · intro y0 y1 y2 y3 y4 y5 y6 y7 y8
      unfold halyardlaw06_FieldShort.j2
      repeat' first
      | (with_reducible exact ih0 _ _ _)
      | (with_reducible exact ih1 _ _ _)
      | (with_reducible exact ih2 _ _ _ _ _ _ _ _ _)
      | (with_reducible exact ih3 _ _ _ _ _ _ _ _)
      | (with_reducible exact ih4 _ _ _ _ _ _ _)
      | (with_reducible exact LeO.refl _)
      | (with_reducible exact LeO.none _)
      | (with_reducible refine LeO.ite ?_ ?_)
      | (with_reducible refine LeO.bind ?_ (fun _ => ?_))
      | exact ih0 _ _ _
      | exact ih1 _ _ _
      | exact ih2 _ _ _ _ _ _ _ _ _
      | exact ih3 _ _ _ _ _ _ _ _
      | exact ih4 _ _ _ _ _ _ _
      | exact LeO.none _
      | refine LeO.ite ?_ ?_
      | refine LeO.bind ?_ (fun _ => ?_)
    · intro y0 y1 y2 y3 y4 y5 y6 y7
      unfold halyardlaw06_FieldShort.j3
      repeat' first
      | (with_reducible exact ih0 _ _ _)
      | (with_reducible exact ih1 _ _ _)
      | (with_reducible exact ih2 _ _ _ _ _ _ _ _ _)
      | (with_reducible exact ih3 _ _ _ _ _ _ _ _)
      | (with_reducible exact ih4 _ _ _ _ _ _ _)
      | (with_reducible exact LeO.refl _)
      | (with_reducible exact LeO.none _)
      | (with_reducible refine LeO.ite ?_ ?_)
      | (with_reducible refine LeO.bind ?_ (fun _ => ?_))
      | exact ih0 _ _ _
      | exact ih1 _ _ _
      | exact ih2 _ _ _ _ _ _ _ _ _
      | exact ih3 _ _ _ _ _ _ _ _
      | exact ih4 _ _ _ _ _ _ _
      | exact LeO.none _
      | refine LeO.ite ?_ ?_
      | refine LeO.bind ?_ (fun _ => ?_)
    · intro y0 y1 y2 y3 y4 y5 y6
      unfold halyardlaw06_FieldShort.j4
      repeat' first
      | (with_reducible exact ih0 _ _ _)
      | (with_reducible exact ih1 _ _ _)
      | (with_reducible exact ih2 _ _ _ _ _ _ _ _ _)
      | (with_reducible exact ih3 _ _ _ _ _ _ _ _)
      | (with_reducible exact ih4 _ _ _ _ _ _ _)
      | (with_reducible exact LeO.refl _)
      | (with_reducible exact LeO.none _)
      | (with_reducible refine LeO.ite ?_ ?_)
      | (with_reducible refine LeO.bind ?_ (fun _ => ?_))
      | exact ih0 _ _ _
      | exact ih1 _ _ _
      | exact ih2 _ _ _ _ _ _ _ _ _
      | exact ih3 _ _ _ _ _ _ _ _
      | exact ih4 _ _ _ _ _ _ _
      | exact LeO.none _
      | refine LeO.ite ?_ ?_
      | refine LeO.bind ?_ (fun _ => ?_)
theorem halyardlaw06_FieldShort.mono : ∀ a0 a1 k, LeO (halyardlaw06_FieldShort.f k a0 a1) (halyardlaw06_FieldShort.f (k + 1) a0 a1) := by
  intro a0 a1 k
  obtain ⟨ih0, ih1, ih2, ih3, ih4⟩ := halyardlaw06_FieldShort.mono_l k
  unfold halyardlaw06_FieldShort.f
  repeat' first
      | (with_reducible exact ih0 _ _ _)
      | (with_reducible exact ih1 _ _ _)
      | (with_reducible exact ih2 _ _ _ _ _ _ _ _ _)
      | (with_reducible exact ih3 _ _ _ _ _ _ _ _)
      | (with_reducible exact ih4 _ _ _ _ _ _ _)
      | (with_reducible exact LeO.refl _)
      | (with_reducible exact LeO.none _)
      | (with_reducible refine LeO.ite ?_ ?_)
      | (with_reducible refine LeO.bind ?_ (fun _ => ?_))
      | exact ih0 _ _ _
      | exact ih1 _ _ _
      | exact ih2 _ _ _ _ _ _ _ _ _
      | exact ih3 _ _ _ _ _ _ _ _
      | exact ih4 _ _ _ _ _ _ _
      | exact LeO.none _
      | refine LeO.ite ?_ ?_
      | refine LeO.bind ?_ (fun _ => ?_)
set_option maxHeartbeats 8000000 in
set_option maxRecDepth 100000 in
theorem halyardlaw06_FieldShort.calls (k : Nat) (a0 : Int) (a1 : ByteArray) (r : Bool) (w : World) (h : halyardlaw06_FieldShort.f k a0 a1 = some r) :
    Calls Try.prog 8 #[.int .u16 a0, .string a1] w fun e w' => e = .returned (.bool r) ∧ Below w.heap.size w w' := by
  have hu38 := Try.underlying38
  have HB := Aside0.mk (Below.refl w.heap.size w)
  have H : (if (a1.size : Int) > 16384 then (halyardlaw06_FieldShort.j0 k a0 a1 true) else ((field_May.f a0).bind fun t205 => (halyardlaw06_FieldShort.j0 k a0 a1 (!t205)))) = some r := h
  clear h
  have HC3 := Aside0.mk H
  clear H
  go_enter Try.func8, Try.ntmps8
  go_upto_region 1 with (fail)
  go_cut [17] (fun v17 wc => ∃ (kq : Nat) (x17_2 : Bool), v17 = .bool x17_2 ∧ Aside0 (halyardlaw06_FieldShort.j0 kq a0 a1 x17_2 = some r) ∧ Aside0 (kq ≤ k) ∧ Aside0 (Below w.heap.size w wc))
  case first =>
    have H := HC3.out
    clear HC3
    by_cases c4 : (a1.size : Int) > 16384
    · rw [if_pos c4] at H
      have c4b0 : decide (16384 < (a1.size : Int)) = true := decide_eq_true c4
      have c4b1 : decide (16384 < a1.size) = true := decide_eq_true (by omega)
      clear c4
      (first | rw [c4b0] | (simp only [i64_w, i32_w]; rw [c4b0]) | skip)
      have H' := Aside0.mk H
      clear H
      go_wp2
      go_meet
      case rel => exact ⟨_, (true), (by first | rfl | (simp; done) | (simp [*]; done)), H', ⟨by first | omega | exact Nat.le_refl _⟩, ⟨by repeat (first | (with_reducible first | exact HB.out | apply below_alloc | apply pw_below_drewN | apply below_drew1) | exact HB.out)⟩⟩
    · rw [if_neg c4] at H
      have c4b0 : decide (16384 < (a1.size : Int)) = false := decide_eq_false c4
      have c4b1 : decide (16384 < a1.size) = false := decide_eq_false (by omega)
      clear c4
      (first | rw [c4b0] | (simp only [i64_w, i32_w]; rw [c4b0]) | skip)
      replace H := Option.bind_eq_some_iff.mp H
      obtain ⟨t205, A50, H⟩ := H
      replace H : (halyardlaw06_FieldShort.j0 k a0 a1 (!t205)) = some r := H
      have A5 := Aside0.mk A50
      clear A50
      have H' := Aside0.mk H
      clear H
      go_wp2_with (first | (go_at_call 31; (with_reducible refine (field_May.calls a0 t205 _ A5.out).mono ?_); rintro e w' ⟨rfl, ⟨nd, rfl⟩⟩))
      go_meet
      case rel => exact ⟨_, (!t205), (by first | rfl | (simp; done) | (simp [*]; done)), H', ⟨by first | omega | exact Nat.le_refl _⟩, ⟨by repeat (first | (with_reducible first | exact HB.out | apply below_alloc | apply pw_below_drewN | apply below_drew1) | exact HB.out)⟩⟩
  case rest =>
    clear HC3
    try clear p2
    try clear c4
    try clear c4b0
    try clear c4b1
    obtain ⟨kq, x17_2, rfl, HA, HJ2, HB⟩ := hcut
    cases kq with
    | zero => exact absurd HA.out (by simp [halyardlaw06_FieldShort.j0])
    | succ kj2 =>
      have H := HA.out
      clear HA
      simp only [halyardlaw06_FieldShort.j0] at H
      by_cases c6 : x17_2 = true
      · subst c6
        have H1 : ((halyardlaw06_alive.f).bind fun t206 => (some t206)) = some r := by rw [if_pos rfl] at H; exact H
        clear H
        have H := H1
        clear H1
        replace H := Option.bind_eq_some_iff.mp H
        obtain ⟨t206, A70, H⟩ := H
        replace H : (some t206) = some r := H
        have A7 := Aside0.mk A70
        clear A70
        obtain rfl := Option.some.inj H
        go_wp2_with (first | ((with_reducible refine gate_callee (f := 26) rfl ?_); refine goesL_ (some 18) rfl rfl Try.func26 (by kernel_rfl) rfl #[] rfl (by (try simp only [List.map_toArray, List.map_cons, List.map_nil]); first | done | rfl | (simp only [List.length_drop, List.length_take]; rfl)) ?_; (with_reducible refine (halyardlaw06_alive.calls  t206 _ A7.out).mono ?_); rintro e w8 ⟨rfl, hb⟩; refine ⟨_, rfl, ?_⟩; have n0_ := Aside0.mk (below_step (by repeat (first | (with_reducible first | exact HB.out | apply below_alloc | apply pw_below_drewN | apply below_drew1) | exact HB.out)) hb); clear HB; have HB := n0_; clear n0_; (try clear hb); (try clear hb2); (try clear hk); (try clear hi)))
        go_ret
        exact ⟨by first | rfl | (simp [errW_none, errW_some] <;> rfl) | (simp [*, errW_none, errW_some] <;> rfl), by repeat (first | (with_reducible first | exact HB.out | apply below_alloc | apply pw_below_drewN | apply below_drew1) | exact HB.out)⟩
      · replace c6 := Bool.eq_false_iff.mpr c6
        subst c6
        have H1 : (halyardlaw06_FieldShort.l0 kj2 a0 a1 0) = some r := by rw [if_neg (show ¬ (false = true) by decide)] at H; exact H
        clear H
        have H := H1
        clear H1
        have H' := Aside0.mk H
        clear H
        go_wp2
        go_loopg [5] kj2 (fun kq v5 w' => ∃ (x5_2 : Int), v5 = .int .i64 x5_2 ∧ Aside0 (halyardlaw06_FieldShort.l0 kq a0 a1 x5_2 = some r) ∧ Aside0 (kq ≤ kj2) ∧ Aside0 (Below w.heap.size w w'))
        case atStart => exact ⟨(0), (by first | rfl | (simp; done) | (simp [*]; done)), H', ⟨Nat.le_refl _⟩, ⟨by repeat (first | (with_reducible first | exact HB.out | apply below_alloc | apply pw_below_drewN | apply below_drew1) | exact HB.out)⟩⟩
        case round =>
          clear H'
          try clear c2
          try clear p2
          try clear c4
          try clear c4b0
          try clear c4b1
          try clear c6
          try clear c8
          try clear p2
          obtain ⟨x5_2, rfl, HA, HK2, HB⟩ := hrel
          cases gk with
          | zero => exact absurd HA.out (by simp [halyardlaw06_FieldShort.l0])
          | succ k2 =>
            have H := HA.out
            clear HA
            simp only [halyardlaw06_FieldShort.l0] at H
            by_cases c9 : x5_2 < 4
            · rw [if_pos c9] at H
              have c9b0 : decide (x5_2 < 4) = true := decide_eq_true c9
              clear c9
              replace H := Option.bind_eq_some_iff.mp H
              obtain ⟨⟨t209, t210⟩, A100, H⟩ := H
              replace H : (if (Int.tmod x5_2 2) = 1 then (halyardlaw06_FieldShort.j2 k2 a0 a1 x5_2 t209 t210 (wrap64 ((a1.size : Int) + 4)) (a0 != 49185) ((Int.tmod x5_2 2) == 1) ((wrap64 (Int.tdiv x5_2 2)) == 1)) else (halyardlaw06_FieldShort.j2 k2 a0 a1 x5_2 t209 t210 (wrap64 ((a1.size : Int) + 4)) false ((Int.tmod x5_2 2) == 1) ((wrap64 (Int.tdiv x5_2 2)) == 1))) = some r := H
              have A10 := Aside0.mk A100
              clear A100
              have HC11 := Aside0.mk H
              clear H
              go_upto_region 9 with (first | ((with_reducible refine gate_dst (N := 6) rfl ?_); (try (refine gate_guard (by rfl) ?_; dsimp only)); refine box_event ?hg (N := 6) ?hd (cs := #[.bool false, .bool false]) (t := 38) ?hr ?_; (case hd => rfl); (case hg => rfl); (case hr => first | (go_simp; done) | (go_simp; rfl)); intro gb208 hg w12 hbox hb; have n0_ := Aside0.mk (below_step (by repeat (first | (with_reducible first | exact HB.out | apply below_alloc | apply pw_below_drewN | apply below_drew1) | exact HB.out)) hb); have n1_ := Aside0.mk (hbox); have n2_ := Aside0.mk ((by rw [hg]; exact (below_size (by repeat (first | (with_reducible first | exact HB.out | apply below_alloc | apply pw_below_drewN | apply below_drew1) | exact HB.out))) : w.heap.size ≤ gb208)); have n3_ := Aside0.mk ((by rw [hg]; exact (below_size (by repeat (first | (with_reducible first | exact HB.out | apply below_alloc | apply pw_below_drewN | apply below_drew1) | exact HB.out))) : w.heap.size ≤ gb208)); clear HB; have HB := n0_; have BK208 := n1_; have GW208 := n2_; have GE208 := n3_; clear n0_ n1_ n2_ n3_; clear hb hbox hg; have hcz13_0 : w12.cell? ⟨gb208, 0, none⟩ = some (.bool false) := (blk_cell BK208.out 0).trans rfl; have hcz13_1 : w12.cell? ⟨gb208, 1, none⟩ = some (.bool false) := (blk_cell BK208.out 1).trans rfl; have hfz13_0 := blk_frozen BK208.out 0; have hfz13_1 := blk_frozen BK208.out 1) | ((with_reducible refine gate_callee (f := 27) rfl ?_); refine goesL_ (some 34) rfl rfl Try.func27 (by kernel_rfl) rfl #[.int .u16 a0, .string a1, .agg #[.bool ((Int.tmod x5_2 2) == 1), .bool ((wrap64 (Int.tdiv x5_2 2)) == 1)]] rfl (by (try simp only [List.map_toArray, List.map_cons, List.map_nil]); first | done | rfl | (simp only [List.length_drop, List.length_take]; rfl)) ?_; (with_reducible refine (field_Put.calls a0 a1 ((Int.tmod x5_2 2) == 1) ((wrap64 (Int.tdiv x5_2 2)) == 1) t209 t210 _ A10.out).mono ?_); rintro e w14 ⟨rfl, hb⟩; refine ⟨_, rfl, ?_⟩; have n0_ := Aside0.mk (blk_below (g := gb208) (o := .cells #[.bool ((Int.tmod x5_2 2) == 1), .bool ((wrap64 (Int.tdiv x5_2 2)) == 1)] 38 (0, 0)) (by (with_reducible repeat (first | refine blk_drewN ?_ _ | refine blk_drew ?_ | refine blk_alloc ?_ _)); refine blk_put (cs := #[.bool ((Int.tmod x5_2 2) == 1), .bool false]) ?_ 1 _ rfl; (with_reducible repeat (first | refine blk_drewN ?_ _ | refine blk_drew ?_ | refine blk_alloc ?_ _)); refine blk_put (cs := #[.bool false, .bool false]) ?_ 0 _ rfl; (with_reducible repeat (first | refine blk_drewN ?_ _ | refine blk_drew ?_ | refine blk_alloc ?_ _)); exact BK208.out) hb); have n1_ := Aside0.mk (below_step (by repeat (first | (with_reducible first | exact HB.out | apply below_alloc | apply pw_below_drewN | apply below_drew1 | refine below_set ?_ GE208.out) | exact HB.out)) hb); clear BK208; clear HB; have BK208 := n0_; have HB := n1_; clear n0_ n1_; (try clear hb); (try clear hb2); (try clear hk); (try clear hi)))
              (try simp only [Act.put, List.setIfInBounds_toArray, List.set_cons_zero, List.set_cons_succ])
              go_cut [45] (fun v45 wc => ∃ (kq : Nat) (x45_10 : Bool), v45 = .bool x45_10 ∧ Aside0 (halyardlaw06_FieldShort.j2 kq a0 a1 x5_2 t209 t210 (wrap64 ((a1.size : Int) + 4)) x45_10 ((Int.tmod x5_2 2) == 1) ((wrap64 (Int.tdiv x5_2 2)) == 1) = some r) ∧ Aside0 (kq ≤ k2) ∧ Aside0 (wc.heap[gb208]? = some (.cells #[.bool ((Int.tmod x5_2 2) == 1), .bool ((wrap64 (Int.tdiv x5_2 2)) == 1)] 38 (0, 0))) ∧ Aside0 (Below w.heap.size w wc))
              case first =>
                have H := HC11.out
                clear HC11
                by_cases c15 : (Int.tmod x5_2 2) = 1
                · rw [if_pos c15] at H
                  have c15b0 : ((Int.tmod x5_2 2) == 1) = true := beq_iff_eq.mpr c15
                  have c15b1 : ((Int.tmod x5_2 2) != 1) = false := bne_eq_false_iff_eq.mpr c15
                  clear c15
                  (first | rw [c15b0] | (simp only [i64_w, i32_w]; rw [c15b0]) | skip)
                  have H' := Aside0.mk H
                  clear H
                  have hcz16_0 : w14.cell? ⟨gb208, 0, none⟩ = some (.bool ((Int.tmod x5_2 2) == 1)) := (blk_cell BK208.out 0).trans rfl
                  have hcz16_1 : w14.cell? ⟨gb208, 1, none⟩ = some (.bool ((wrap64 (Int.tdiv x5_2 2)) == 1)) := (blk_cell BK208.out 1).trans rfl
                  have hfz16_0 := blk_frozen BK208.out 0
                  have hfz16_1 := blk_frozen BK208.out 1
                  go_wp2
                  go_meet
                  case rel => exact ⟨_, ((a0 != 49185)), (by first | rfl | (simp; done) | (simp [*]; done)), H', ⟨by have := HJ2.out; have := HK2.out; first | omega | exact Nat.le_refl _⟩, ⟨by (with_reducible repeat (first | refine blk_drewN ?_ _ | refine blk_drew ?_ | refine blk_alloc ?_ _)); exact BK208.out⟩, ⟨by repeat (first | (with_reducible first | exact HB.out | apply below_alloc | apply pw_below_drewN | apply below_drew1 | refine below_set ?_ GE208.out) | exact HB.out)⟩⟩
                · rw [if_neg c15] at H
                  have c15b0 : ((Int.tmod x5_2 2) == 1) = false := beq_eq_false_iff_ne.mpr c15
                  have c15b1 : ((Int.tmod x5_2 2) != 1) = true := bne_iff_ne.mpr c15
                  (first | rw [c15b0] | (simp only [i64_w, i32_w]; rw [c15b0]) | skip)
                  have H' := Aside0.mk H
                  clear H
                  have hcz17_0 : w14.cell? ⟨gb208, 0, none⟩ = some (.bool ((Int.tmod x5_2 2) == 1)) := (blk_cell BK208.out 0).trans rfl
                  have hcz17_1 : w14.cell? ⟨gb208, 1, none⟩ = some (.bool ((wrap64 (Int.tdiv x5_2 2)) == 1)) := (blk_cell BK208.out 1).trans rfl
                  have hfz17_0 := blk_frozen BK208.out 0
                  have hfz17_1 := blk_frozen BK208.out 1
                  go_wp2
                  go_meet
                  case rel => exact ⟨_, (false), (by first | rfl | (simp; done) | (simp [*]; done)), H', ⟨by have := HJ2.out; have := HK2.out; first | omega | exact Nat.le_refl _⟩, ⟨by (with_reducible repeat (first | refine blk_drewN ?_ _ | refine blk_drew ?_ | refine blk_alloc ?_ _)); exact BK208.out⟩, ⟨by repeat (first | (with_reducible first | exact HB.out | apply below_alloc | apply pw_below_drewN | apply below_drew1 | refine below_set ?_ GE208.out) | exact HB.out)⟩⟩
              case rest =>
                clear HC11
                try clear c1
                try clear c2
                try clear p2
                try clear c4
                try clear c4b0
                try clear c4b1
                try clear c6
                try clear p6
                try clear c8
                try clear c9
                try clear c9b0
                try clear c15
                try clear c15b0
                try clear c15b1
                try clear hcz13_0
                try clear hcz13_1
                try clear hcz16_0
                try clear hcz16_1
                try clear hcz17_0
                try clear hcz17_1
                try clear hfz13_0
                try clear hfz13_1
                try clear hfz16_0
                try clear hfz16_1
                try clear hfz17_0
                try clear hfz17_1
                try clear p2
                obtain ⟨kq, x45_10, rfl, HA, HJ10, BK208, HB⟩ := hcut
                cases kq with
                | zero => exact absurd HA.out (by simp [halyardlaw06_FieldShort.j2])
                | succ kj10 =>
                  have H := HA.out
                  clear HA
                  simp only [halyardlaw06_FieldShort.j2] at H
                  have HC18 := Aside0.mk H
                  clear H
                  go_upto_if 45 with (fail)
                  go_cut [9] (fun v9 wc => ∃ (kq : Nat) (x9_17 : Int), v9 = .int .i64 x9_17 ∧ Aside0 (halyardlaw06_FieldShort.j3 kq a0 a1 x5_2 t209 t210 x9_17 ((Int.tmod x5_2 2) == 1) ((wrap64 (Int.tdiv x5_2 2)) == 1) = some r) ∧ Aside0 (kq ≤ kj10) ∧ Aside0 (wc.heap[gb208]? = some (.cells #[.bool ((Int.tmod x5_2 2) == 1), .bool ((wrap64 (Int.tdiv x5_2 2)) == 1)] 38 (0, 0))) ∧ Aside0 (Below w.heap.size w wc))
                  case first =>
                    have H := HC18.out
                    clear HC18
                    by_cases c19 : x45_10 = true
                    · subst c19
                      have H1 : (halyardlaw06_FieldShort.j3 kj10 a0 a1 x5_2 t209 t210 (wrap64 ((wrap64 ((a1.size : Int) + 4)) - 2)) ((Int.tmod x5_2 2) == 1) ((wrap64 (Int.tdiv x5_2 2)) == 1)) = some r := by rw [if_pos rfl] at H; exact H
                      clear H
                      have H := H1
                      clear H1
                      have H' := Aside0.mk H
                      clear H
                      go_wp2
                      go_meet
                      case rel => exact ⟨_, (wrap64 ((wrap64 ((a1.size : Int) + 4)) - 2)), (by first | rfl | (simp; done) | (simp [*]; done)), H', ⟨by have := HJ2.out; have := HK2.out; have := HJ10.out; first | omega | exact Nat.le_refl _⟩, ⟨by (with_reducible repeat (first | refine blk_drewN ?_ _ | refine blk_drew ?_ | refine blk_alloc ?_ _)); exact BK208.out⟩, ⟨by repeat (first | (with_reducible first | exact HB.out | apply below_alloc | apply pw_below_drewN | apply below_drew1 | refine below_set ?_ GE208.out) | exact HB.out)⟩⟩
                    · replace c19 := Bool.eq_false_iff.mpr c19
                      subst c19
                      have H1 : (halyardlaw06_FieldShort.j3 kj10 a0 a1 x5_2 t209 t210 (wrap64 ((a1.size : Int) + 4)) ((Int.tmod x5_2 2) == 1) ((wrap64 (Int.tdiv x5_2 2)) == 1)) = some r := by rw [if_neg (show ¬ (false = true) by decide)] at H; exact H
                      clear H
                      have H := H1
                      clear H1
                      have H' := Aside0.mk H
                      clear H
                      go_wp2
                      go_meet
                      case rel => exact ⟨_, ((wrap64 ((a1.size : Int) + 4))), (by first | rfl | (simp; done) | (simp [*]; done)), H', ⟨by have := HJ2.out; have := HK2.out; have := HJ10.out; first | omega | exact Nat.le_refl _⟩, ⟨by (with_reducible repeat (first | refine blk_drewN ?_ _ | refine blk_drew ?_ | refine blk_alloc ?_ _)); exact BK208.out⟩, ⟨by repeat (first | (with_reducible first | exact HB.out | apply below_alloc | apply pw_below_drewN | apply below_drew1 | refine below_set ?_ GE208.out) | exact HB.out)⟩⟩
                  case rest =>
                    clear HC18
                    try clear c1
                    try clear c2
                    try clear p2
                    try clear c4
                    try clear c4b0
                    try clear c4b1
                    try clear c6
                    try clear p6
                    try clear c8
                    try clear c9
                    try clear c9b0
                    try clear c15
                    try clear c15b0
                    try clear c15b1
                    try clear c19
                    try clear hcz13_0
                    try clear hcz13_1
                    try clear hcz16_0
                    try clear hcz16_1
                    try clear hcz17_0
                    try clear hcz17_1
                    try clear hfz13_0
                    try clear hfz13_1
                    try clear hfz16_0
                    try clear hfz16_1
                    try clear hfz17_0
                    try clear hfz17_1
                    try clear p2
                    try clear p6
                    obtain ⟨kq, x9_17, rfl, HA, HJ17, BK208, HB⟩ := hcut
                    cases kq with
                    | zero => exact absurd HA.out (by simp [halyardlaw06_FieldShort.j3])
                    | succ kj17 =>
                      have H := HA.out
                      clear HA
                      simp only [halyardlaw06_FieldShort.j3] at H
                      have HC20 := Aside0.mk H
                      clear H
                      go_upto_region 11 with (fail)
                      go_cut [53] (fun v53 wc => ∃ (kq : Nat) (x53_19 : Bool), v53 = .bool x53_19 ∧ Aside0 (halyardlaw06_FieldShort.j4 kq a0 a1 x5_2 t209 t210 x9_17 x53_19 = some r) ∧ Aside0 (kq ≤ kj17) ∧ Aside0 (wc.heap[gb208]? = some (.cells #[.bool ((Int.tmod x5_2 2) == 1), .bool ((wrap64 (Int.tdiv x5_2 2)) == 1)] 38 (0, 0))) ∧ Aside0 (Below w.heap.size w wc))
                      case first =>
                        have H := HC20.out
                        clear HC20
                        by_cases c21 : ((wrap64 (Int.tdiv x5_2 2)) == 1) = true
                        · rw [if_pos c21] at H
                          have c21b0 : ((wrap64 (Int.tdiv x5_2 2)) == 1) = true := c21
                          (try (have c21b1 : decide ((wrap64 (Int.tdiv x5_2 2)) = 1) = true := by simpa using c21))
                          (try (have c21b2 : ((wrap64 (Int.tdiv x5_2 2)) == 1) = true := by simpa using c21))
                          clear c21
                          (first | rw [c21b0] | (simp only [i64_w, i32_w]; rw [c21b0]) | skip)
                          have H' := Aside0.mk H
                          clear H
                          have hcz22_0 : wc.cell? ⟨gb208, 0, none⟩ = some (.bool ((Int.tmod x5_2 2) == 1)) := (blk_cell BK208.out 0).trans rfl
                          have hcz22_1 : wc.cell? ⟨gb208, 1, none⟩ = some (.bool ((wrap64 (Int.tdiv x5_2 2)) == 1)) := (blk_cell BK208.out 1).trans rfl
                          have hfz22_0 := blk_frozen BK208.out 0
                          have hfz22_1 := blk_frozen BK208.out 1
                          go_wp2
                          go_meet
                          case rel => exact ⟨_, (decide (a0 < 256)), (by first | rfl | (simp; done) | (simp [*]; done)), H', ⟨by have := HJ2.out; have := HK2.out; have := HJ10.out; have := HJ17.out; first | omega | exact Nat.le_refl _⟩, ⟨by (with_reducible repeat (first | refine blk_drewN ?_ _ | refine blk_drew ?_ | refine blk_alloc ?_ _)); exact BK208.out⟩, ⟨by repeat (first | (with_reducible first | exact HB.out | apply below_alloc | apply pw_below_drewN | apply below_drew1 | refine below_set ?_ GE208.out) | exact HB.out)⟩⟩
                        · rw [if_neg c21] at H
                          have c21b0 : ((wrap64 (Int.tdiv x5_2 2)) == 1) = false := by simpa using c21
                          (try (have c21b1 : decide ((wrap64 (Int.tdiv x5_2 2)) = 1) = false := by simpa using c21))
                          (try (have c21b2 : ((wrap64 (Int.tdiv x5_2 2)) == 1) = false := by simpa using c21))
                          (try (have c21b3 : ¬ ((wrap64 (Int.tdiv x5_2 2)) = 1) := by simpa using c21))
                          clear c21
                          (first | rw [c21b0] | (simp only [i64_w, i32_w]; rw [c21b0]) | skip)
                          have H' := Aside0.mk H
                          clear H
                          have hcz23_0 : wc.cell? ⟨gb208, 0, none⟩ = some (.bool ((Int.tmod x5_2 2) == 1)) := (blk_cell BK208.out 0).trans rfl
                          have hcz23_1 : wc.cell? ⟨gb208, 1, none⟩ = some (.bool ((wrap64 (Int.tdiv x5_2 2)) == 1)) := (blk_cell BK208.out 1).trans rfl
                          have hfz23_0 := blk_frozen BK208.out 0
                          have hfz23_1 := blk_frozen BK208.out 1
                          go_wp2
                          go_meet
                          case rel => exact ⟨_, (false), (by first | rfl | (simp; done) | (simp [*]; done)), H', ⟨by have := HJ2.out; have := HK2.out; have := HJ10.out; have := HJ17.out; first | omega | exact Nat.le_refl _⟩, ⟨by (with_reducible repeat (first | refine blk_drewN ?_ _ | refine blk_drew ?_ | refine blk_alloc ?_ _)); exact BK208.out⟩, ⟨by repeat (first | (with_reducible first | exact HB.out | apply below_alloc | apply pw_below_drewN | apply below_drew1 | refine below_set ?_ GE208.out) | exact HB.out)⟩⟩
                      case rest =>
                        clear HC20
                        try clear c1
                        try clear c2
                        try clear p2
                        try clear c4
                        try clear c4b0
                        try clear c4b1
                        try clear c6
                        try clear p6
                        try clear c8
                        try clear c9
                        try clear c9b0
                        try clear c15
                        try clear c15b0
                        try clear c15b1
                        try clear c19
                        try clear c21
                        try clear c21b0
                        try clear c21b1
                        try clear c21b2
                        try clear hcz13_0
                        try clear hcz13_1
                        try clear hcz16_0
                        try clear hcz16_1
                        try clear hcz17_0
                        try clear hcz17_1
                        try clear hcz22_0
                        try clear hcz22_1
                        try clear hcz23_0
                        try clear hcz23_1
                        try clear hfz13_0
                        try clear hfz13_1
                        try clear hfz16_0
                        try clear hfz16_1
                        try clear hfz17_0
                        try clear hfz17_1
                        try clear hfz22_0
                        try clear hfz22_1
                        try clear hfz23_0
                        try clear hfz23_1
                        try clear p2
                        try clear p6
                        obtain ⟨kq, x53_19, rfl, HA, HJ19, BK208, HB⟩ := hcut
                        cases kq with
                        | zero => exact absurd HA.out (by simp [halyardlaw06_FieldShort.j4])
                        | succ kj19 =>
                          have H := HA.out
                          clear HA
                          simp only [halyardlaw06_FieldShort.j4] at H
                          by_cases c24 : x53_19 = true
                          · subst c24
                            have H1 : (if t210 = 0 then (if (t209.size : Int) = (wrap64 (x9_17 - 1)) then (if 0 ≤ (wrap64 ((wrap64 (x9_17 - 1)) - (a1.size : Int))) then (if (wrap64 ((wrap64 (x9_17 - 1)) - (a1.size : Int))) ≤ (t209.size : Int) then (if (t209.extract ((wrap64 ((wrap64 (x9_17 - 1)) - (a1.size : Int))) : Int).toNat t209.size).toList = a1.toList then (halyardlaw06_FieldShort.l0 kj19 a0 a1 (wrap64 (x5_2 + 1))) else (some false)) else (none)) else (none)) else (some false)) else (some false)) = some r := by rw [if_pos rfl] at H; exact H
                            clear H
                            have H := H1
                            clear H1
                            by_cases c25 : t210 = 0
                            · rw [if_pos c25] at H
                              have c25b0 : (t210 == 0) = true := beq_iff_eq.mpr c25
                              have c25b1 : (t210 != 0) = false := bne_eq_false_iff_eq.mpr c25
                              clear c25
                              by_cases c26 : (t209.size : Int) = (wrap64 (x9_17 - 1))
                              · rw [if_pos c26] at H
                                have c26b0 : ((t209.size : Int) == (wrap64 (x9_17 - 1))) = true := beq_iff_eq.mpr c26
                                have c26b1 : ((t209.size : Int) != (wrap64 (x9_17 - 1))) = false := bne_eq_false_iff_eq.mpr c26
                                clear c26
                                obtain ⟨ji27, hji27⟩ : ∃ j_ : Int, (wrap64 ((wrap64 (x9_17 - 1)) - (a1.size : Int))) = j_ := ⟨_, rfl⟩
                                replace H : (if 0 ≤ (ji27) then (if (ji27) ≤ (t209.size : Int) then (if (t209.extract ((ji27) : Int).toNat t209.size).toList = a1.toList then (halyardlaw06_FieldShort.l0 kj19 a0 a1 (wrap64 (x5_2 + 1))) else (some false)) else (none)) else (none)) = some r := by first | (rw [hji27] at H; exact H) | (simp only [hji27] at H ⊢; exact H)
                                have hji27w : (IntKind.i64.wrap ((wrap64 (x9_17 - 1)) - (a1.size : Int))) = ji27 := (i64_w _).trans hji27
                                by_cases c28 : 0 ≤ (ji27)
                                · rw [if_pos c28] at H
                                  have c28b0 := eq_true c28
                                  have c28b1 : decide (0 ≤ (ji27)) = true := decide_eq_true c28
                                  clear c28
                                  by_cases c29 : (ji27) ≤ (t209.size : Int)
                                  · rw [if_pos c29] at H
                                    have c29b0 := eq_true c29
                                    have c29b1 : decide ((ji27) ≤ (t209.size : Int)) = true := decide_eq_true c29
                                    clear c29
                                    by_cases c30 : (t209.extract ((ji27) : Int).toNat t209.size).toList = a1.toList
                                    · rw [if_pos c30] at H
                                      have c30b0 : ((t209.extract ((ji27) : Int).toNat t209.size).toList == a1.toList) = true := beq_iff_eq.mpr c30
                                      have c30b1 : ((t209.extract ((ji27) : Int).toNat t209.size).toList != a1.toList) = false := bne_eq_false_iff_eq.mpr c30
                                      clear c30
                                      have H' := Aside0.mk H
                                      clear H
                                      go_wp2
                                      go_roundg kj19
                                      case measure => have := HJ2.out; have := HK2.out; have := HJ10.out; have := HJ17.out; have := HJ19.out; omega
                                      case rel => exact ⟨(wrap64 (x5_2 + 1)), (by first | rfl | (simp; done) | (simp [*]; done)), H', ⟨by have := HJ2.out; have := HK2.out; have := HJ10.out; have := HJ17.out; have := HJ19.out; omega⟩, ⟨by repeat (first | (with_reducible first | exact HB.out | apply below_alloc | apply pw_below_drewN | apply below_drew1 | refine below_set ?_ GE208.out) | exact HB.out)⟩⟩
                                    · rw [if_neg c30] at H
                                      have c30b0 : ((t209.extract ((ji27) : Int).toNat t209.size).toList == a1.toList) = false := beq_eq_false_iff_ne.mpr c30
                                      have c30b1 : ((t209.extract ((ji27) : Int).toNat t209.size).toList != a1.toList) = true := bne_iff_ne.mpr c30
                                      obtain rfl := Option.some.inj H
                                      go_wp2
                                      go_ret
                                      exact ⟨by first | rfl | (simp [errW_none, errW_some] <;> rfl) | (simp only [← hji27]; first | rfl | (simp [errW_none, errW_some] <;> rfl)) | (simp [*, errW_none, errW_some] <;> rfl), by repeat (first | (with_reducible first | exact HB.out | apply below_alloc | apply pw_below_drewN | apply below_drew1 | refine below_set ?_ GE208.out) | exact HB.out)⟩
                                  · rw [if_neg c29] at H
                                    exact absurd H (by simp)
                                · rw [if_neg c28] at H
                                  exact absurd H (by simp)
                              · rw [if_neg c26] at H
                                have c26b0 : ((t209.size : Int) == (wrap64 (x9_17 - 1))) = false := beq_eq_false_iff_ne.mpr c26
                                have c26b1 : ((t209.size : Int) != (wrap64 (x9_17 - 1))) = true := bne_iff_ne.mpr c26
                                obtain rfl := Option.some.inj H
                                go_wp2
                                go_ret
                                exact ⟨by first | rfl | (simp [errW_none, errW_some] <;> rfl) | (simp [*, errW_none, errW_some] <;> rfl), by repeat (first | (with_reducible first | exact HB.out | apply below_alloc | apply pw_below_drewN | apply below_drew1 | refine below_set ?_ GE208.out) | exact HB.out)⟩
                            · rw [if_neg c25] at H
                              have c25b0 : (t210 == 0) = false := beq_eq_false_iff_ne.mpr c25
                              have c25b1 : (t210 != 0) = true := bne_iff_ne.mpr c25
                              obtain rfl := Option.some.inj H
                              go_wp2
                              go_ret
                              exact ⟨by first | rfl | (simp [errW_none, errW_some] <;> rfl) | (simp [*, errW_none, errW_some] <;> rfl), by repeat (first | (with_reducible first | exact HB.out | apply below_alloc | apply pw_below_drewN | apply below_drew1 | refine below_set ?_ GE208.out) | exact HB.out)⟩
                          · replace c24 := Bool.eq_false_iff.mpr c24
                            subst c24
                            have H1 : (if t210 = 0 then (if (t209.size : Int) = x9_17 then (if 0 ≤ (wrap64 (x9_17 - (a1.size : Int))) then (if (wrap64 (x9_17 - (a1.size : Int))) ≤ (t209.size : Int) then (if (t209.extract ((wrap64 (x9_17 - (a1.size : Int))) : Int).toNat t209.size).toList = a1.toList then (halyardlaw06_FieldShort.l0 kj19 a0 a1 (wrap64 (x5_2 + 1))) else (some false)) else (none)) else (none)) else (some false)) else (some false)) = some r := by rw [if_neg (show ¬ (false = true) by decide)] at H; exact H
                            clear H
                            have H := H1
                            clear H1
                            by_cases c31 : t210 = 0
                            · rw [if_pos c31] at H
                              have c31b0 : (t210 == 0) = true := beq_iff_eq.mpr c31
                              have c31b1 : (t210 != 0) = false := bne_eq_false_iff_eq.mpr c31
                              clear c31
                              by_cases c32 : (t209.size : Int) = x9_17
                              · rw [if_pos c32] at H
                                have c32b0 : ((t209.size : Int) == x9_17) = true := beq_iff_eq.mpr c32
                                have c32b1 : ((t209.size : Int) != x9_17) = false := bne_eq_false_iff_eq.mpr c32
                                clear c32
                                obtain ⟨ji33, hji33⟩ : ∃ j_ : Int, (wrap64 (x9_17 - (a1.size : Int))) = j_ := ⟨_, rfl⟩
                                replace H : (if 0 ≤ (ji33) then (if (ji33) ≤ (t209.size : Int) then (if (t209.extract ((ji33) : Int).toNat t209.size).toList = a1.toList then (halyardlaw06_FieldShort.l0 kj19 a0 a1 (wrap64 (x5_2 + 1))) else (some false)) else (none)) else (none)) = some r := by first | (rw [hji33] at H; exact H) | (simp only [hji33] at H ⊢; exact H)
                                have hji33w : (IntKind.i64.wrap (x9_17 - (a1.size : Int))) = ji33 := (i64_w _).trans hji33
                                by_cases c34 : 0 ≤ (ji33)
                                · rw [if_pos c34] at H
                                  have c34b0 := eq_true c34
                                  have c34b1 : decide (0 ≤ (ji33)) = true := decide_eq_true c34
                                  clear c34
                                  by_cases c35 : (ji33) ≤ (t209.size : Int)
                                  · rw [if_pos c35] at H
                                    have c35b0 := eq_true c35
                                    have c35b1 : decide ((ji33) ≤ (t209.size : Int)) = true := decide_eq_true c35
                                    clear c35
                                    by_cases c36 : (t209.extract ((ji33) : Int).toNat t209.size).toList = a1.toList
                                    · rw [if_pos c36] at H
                                      have c36b0 : ((t209.extract ((ji33) : Int).toNat t209.size).toList == a1.toList) = true := beq_iff_eq.mpr c36
                                      have c36b1 : ((t209.extract ((ji33) : Int).toNat t209.size).toList != a1.toList) = false := bne_eq_false_iff_eq.mpr c36
                                      clear c36
                                      have H' := Aside0.mk H
                                      clear H
                                      go_wp2
                                      go_roundg kj19
                                      case measure => have := HJ2.out; have := HK2.out; have := HJ10.out; have := HJ17.out; have := HJ19.out; omega
                                      case rel => exact ⟨(wrap64 (x5_2 + 1)), (by first | rfl | (simp; done) | (simp [*]; done)), H', ⟨by have := HJ2.out; have := HK2.out; have := HJ10.out; have := HJ17.out; have := HJ19.out; omega⟩, ⟨by repeat (first | (with_reducible first | exact HB.out | apply below_alloc | apply pw_below_drewN | apply below_drew1 | refine below_set ?_ GE208.out) | exact HB.out)⟩⟩
                                    · rw [if_neg c36] at H
                                      have c36b0 : ((t209.extract ((ji33) : Int).toNat t209.size).toList == a1.toList) = false := beq_eq_false_iff_ne.mpr c36
                                      have c36b1 : ((t209.extract ((ji33) : Int).toNat t209.size).toList != a1.toList) = true := bne_iff_ne.mpr c36
                                      obtain rfl := Option.some.inj H
                                      go_wp2
                                      go_ret
                                      exact ⟨by first | rfl | (simp [errW_none, errW_some] <;> rfl) | (simp only [← hji33]; first | rfl | (simp [errW_none, errW_some] <;> rfl)) | (simp [*, errW_none, errW_some] <;> rfl), by repeat (first | (with_reducible first | exact HB.out | apply below_alloc | apply pw_below_drewN | apply below_drew1 | refine below_set ?_ GE208.out) | exact HB.out)⟩
                                  · rw [if_neg c35] at H
                                    exact absurd H (by simp)
                                · rw [if_neg c34] at H
                                  exact absurd H (by simp)
                              · rw [if_neg c32] at H
                                have c32b0 : ((t209.size : Int) == x9_17) = false := beq_eq_false_iff_ne.mpr c32
                                have c32b1 : ((t209.size : Int) != x9_17) = true := bne_iff_ne.mpr c32
                                obtain rfl := Option.some.inj H
                                go_wp2
                                go_ret
                                exact ⟨by first | rfl | (simp [errW_none, errW_some] <;> rfl) | (simp [*, errW_none, errW_some] <;> rfl), by repeat (first | (with_reducible first | exact HB.out | apply below_alloc | apply pw_below_drewN | apply below_drew1 | refine below_set ?_ GE208.out) | exact HB.out)⟩
                            · rw [if_neg c31] at H
                              have c31b0 : (t210 == 0) = false := beq_eq_false_iff_ne.mpr c31
                              have c31b1 : (t210 != 0) = true := bne_iff_ne.mpr c31
                              obtain rfl := Option.some.inj H
                              go_wp2
                              go_ret
                              exact ⟨by first | rfl | (simp [errW_none, errW_some] <;> rfl) | (simp [*, errW_none, errW_some] <;> rfl), by repeat (first | (with_reducible first | exact HB.out | apply below_alloc | apply pw_below_drewN | apply below_drew1 | refine below_set ?_ GE208.out) | exact HB.out)⟩
            · rw [if_neg c9] at H
              have c9b0 : decide (x5_2 < 4) = false := decide_eq_false c9
              clear c9
              replace H := Option.bind_eq_some_iff.mp H
              obtain ⟨t207, A370, H⟩ := H
              replace H : (some t207) = some r := H
              have A37 := Aside0.mk A370
              clear A370
              obtain rfl := Option.some.inj H
              go_wp2_with (first | ((with_reducible refine gate_callee (f := 26) rfl ?_); refine goesL_ (some 74) rfl rfl Try.func26 (by kernel_rfl) rfl #[] rfl (by (try simp only [List.map_toArray, List.map_cons, List.map_nil]); first | done | rfl | (simp only [List.length_drop, List.length_take]; rfl)) ?_; (with_reducible refine (halyardlaw06_alive.calls  t207 _ A37.out).mono ?_); rintro e w38 ⟨rfl, hb⟩; refine ⟨_, rfl, ?_⟩; have n0_ := Aside0.mk (below_step (by repeat (first | (with_reducible first | exact HB.out | apply below_alloc | apply pw_below_drewN | apply below_drew1) | exact HB.out)) hb); clear HB; have HB := n0_; clear n0_; (try clear hb); (try clear hb2); (try clear hk); (try clear hi)))
              go_ret
              exact ⟨by first | rfl | (simp [errW_none, errW_some] <;> rfl) | (simp [*, errW_none, errW_some] <;> rfl), by repeat (first | (with_reducible first | exact HB.out | apply below_alloc | apply pw_below_drewN | apply below_drew1) | exact HB.out)⟩

/-- THE ONE PURE STATEMENT of halyardlaw06_FieldShort: yours. -/
def halyardlaw06_FieldShort.Pure : Prop := ∀ (a0 : Int) (a1 : ByteArray), (Lit.int .u16 a0).wf = true → a1.size ≤ 140737488351232 → ∃ k, halyardlaw06_FieldShort.f k a0 a1 = some true
theorem halyardlaw06_FieldShort.walk (P : halyardlaw06_FieldShort.Pure) (a0 : Int) (a1 : ByteArray) (w : World) (w0 : (Lit.int .u16 a0).wf = true) (w1 : a1.size ≤ 140737488351232) :
    Calls Try.prog 8 #[.int .u16 a0, .string a1] w fun e w' => e = .returned (.bool true) ∧ Below w.heap.size w w' := by
  obtain ⟨k, h⟩ := P a0 a1 w0 w1
  refine (halyardlaw06_FieldShort.calls k a0 a1 true w h).mono ?_
  rintro e w' ⟨rfl, hd⟩
  exact ⟨rfl, hd⟩

end Go.Proofs.Ytdlpoemjgeehgaa.PG06
