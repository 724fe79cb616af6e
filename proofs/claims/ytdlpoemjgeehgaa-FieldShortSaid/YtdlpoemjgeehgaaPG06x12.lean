-- WRITTEN by wip/tools/hprint.py: the kit's print.py run over this translation, with functions proved by hand laid in. Lean checks it.
import Derived.Test.YtdlpoemjgeehgaaPG06x0
import Derived.Test.YtdlpoemjgeehgaaPG06x11
namespace Go.Proofs.Ytdlpoemjgeehgaa.PG06
open Go.RowKit Go.Proofs.YtdlpoemjgeehgaaW.PrintWords Go.Proofs.YtdlpoemjgeehgaaW.PrintLast Go.Proofs.YtdlpoemjgeehgaaW.PrintMore Go.Proofs.YtdlpoemjgeehgaaHW
attribute [local go_sem] max2_int min2_int max_two min_two max_three min_three max_four min_four   -- for this text's walks alone
set_option linter.unusedVariables false
set_option linter.unusedSimpArgs false

/-! ### halyardref06_Put: function 28 -/
def halyardref06_Put.j0 : Nat → Int → ByteArray → List Int → Bool → Bool → Bool → Option (ByteArray × Int)
  | 0, _, _, _, _, _, _ => none
  | k + 1, x0, x1, x8, x18, x121000, x121001 => if x18 = true then ((some (([255, 3] : List Int) : List Int)).bind fun y122 => (if x8.length + y122.length < 140737488355328 then ((some (x8 ++ y122 : List Int)).bind fun y125 => (if x121001 = true then (if (IntKind.u16.wrap (Int.tdiv x0 256)) = 0 then (if x0 = 49185 then (if y125.length < 140737488355328 then ((some (y125 ++ [(IntKind.u16.wrap (Int.tdiv x0 256)) % 256] : List Int)).bind fun y128 => (if y128.length < 140737488355328 then ((some (y128 ++ [(Int.tmod x0 256) % 256] : List Int)).bind fun y131 => (if (strOfNums y131).size + x1.size ≤ 9223372036854775807 then (some ((strOfNums y131) ++ x1, 0)) else (none))) else (none))) else (none)) else (if y125.length < 140737488355328 then ((some (y125 ++ [(Int.tmod x0 256) % 256] : List Int)).bind fun y134 => (if (strOfNums y134).size + x1.size ≤ 9223372036854775807 then (some ((strOfNums y134) ++ x1, 0)) else (none))) else (none))) else (if y125.length < 140737488355328 then ((some (y125 ++ [(IntKind.u16.wrap (Int.tdiv x0 256)) % 256] : List Int)).bind fun y137 => (if y137.length < 140737488355328 then ((some (y137 ++ [(Int.tmod x0 256) % 256] : List Int)).bind fun y140 => (if (strOfNums y140).size + x1.size ≤ 9223372036854775807 then (some ((strOfNums y140) ++ x1, 0)) else (none))) else (none))) else (none))) else (if y125.length < 140737488355328 then ((some (y125 ++ [(IntKind.u16.wrap (Int.tdiv x0 256)) % 256] : List Int)).bind fun y143 => (if y143.length < 140737488355328 then ((some (y143 ++ [(Int.tmod x0 256) % 256] : List Int)).bind fun y146 => (if (strOfNums y146).size + x1.size ≤ 9223372036854775807 then (some ((strOfNums y146) ++ x1, 0)) else (none))) else (none))) else (none)))) else (none))) else (if x121001 = true then (if (IntKind.u16.wrap (Int.tdiv x0 256)) = 0 then (if x0 = 49185 then (if x8.length < 140737488355328 then ((some (x8 ++ [(IntKind.u16.wrap (Int.tdiv x0 256)) % 256] : List Int)).bind fun y149 => (if y149.length < 140737488355328 then ((some (y149 ++ [(Int.tmod x0 256) % 256] : List Int)).bind fun y152 => (if (strOfNums y152).size + x1.size ≤ 9223372036854775807 then (some ((strOfNums y152) ++ x1, 0)) else (none))) else (none))) else (none)) else (if x8.length < 140737488355328 then ((some (x8 ++ [(Int.tmod x0 256) % 256] : List Int)).bind fun y155 => (if (strOfNums y155).size + x1.size ≤ 9223372036854775807 then (some ((strOfNums y155) ++ x1, 0)) else (none))) else (none))) else (if x8.length < 140737488355328 then ((some (x8 ++ [(IntKind.u16.wrap (Int.tdiv x0 256)) % 256] : List Int)).bind fun y158 => (if y158.length < 140737488355328 then ((some (y158 ++ [(Int.tmod x0 256) % 256] : List Int)).bind fun y161 => (if (strOfNums y161).size + x1.size ≤ 9223372036854775807 then (some ((strOfNums y161) ++ x1, 0)) else (none))) else (none))) else (none))) else (if x8.length < 140737488355328 then ((some (x8 ++ [(IntKind.u16.wrap (Int.tdiv x0 256)) % 256] : List Int)).bind fun y164 => (if y164.length < 140737488355328 then ((some (y164 ++ [(Int.tmod x0 256) % 256] : List Int)).bind fun y167 => (if (strOfNums y167).size + x1.size ≤ 9223372036854775807 then (some ((strOfNums y167) ++ x1, 0)) else (none))) else (none))) else (none)))
def halyardref06_Put.f (k : Nat) (a0 : Int) (a1 : ByteArray) (a2_0 : Bool) (a2_1 : Bool) : Option (ByteArray × Int) := (halyardref06_May.f a0).bind fun t121 => (if t121 = true then (if a2_0 = true then (halyardref06_Put.j0 k a0 a1 ([] : List Int) (a0 == 49185) a2_0 a2_1) else (halyardref06_Put.j0 k a0 a1 ([] : List Int) true a2_0 a2_1)) else (some ((⟨#[]⟩ : ByteArray), 2)))
theorem halyardref06_Put.mono_l : ∀ k, (∀ y0 y1 y2 y3 y4 y5, LeO (halyardref06_Put.j0 k y0 y1 y2 y3 y4 y5) (halyardref06_Put.j0 (k + 1) y0 y1 y2 y3 y4 y5))
  | 0 => fun _ _ _ _ _ _ r h => by simp [halyardref06_Put.j0] at h
  | k + 1 => by
    have ih0 := halyardref06_Put.mono_l k
    · intro y0 y1 y2 y3 y4 y5
      unfold halyardref06_Put.j0
      repeat' first
      | (with_reducible exact ih0 _ _ _ _ _ _)
      | (with_reducible exact LeO.refl _)
      | (with_reducible exact LeO.none _)
      | (with_reducible refine LeO.ite ?_ ?_)
      | (with_reducible refine LeO.bind ?_ (fun _ => ?_))
      | exact ih0 _ _ _ _ _ _
      | exact LeO.none _
      | refine LeO.ite ?_ ?_
      | refine LeO.bind ?_ (fun _ => ?_)
theorem halyardref06_Put.mono : ∀ a0 a1 a2 a3 k, LeO (halyardref06_Put.f k a0 a1 a2 a3) (halyardref06_Put.f (k + 1) a0 a1 a2 a3) := by
  intro a0 a1 a2 a3 k
  have ih0 := halyardref06_Put.mono_l k
  unfold halyardref06_Put.f
  repeat' first
      | (with_reducible exact ih0 _ _ _ _ _ _)
      | (with_reducible exact LeO.refl _)
      | (with_reducible exact LeO.none _)
      | (with_reducible refine LeO.ite ?_ ?_)
      | (with_reducible refine LeO.bind ?_ (fun _ => ?_))
      | exact ih0 _ _ _ _ _ _
      | exact LeO.none _
      | refine LeO.ite ?_ ?_
      | refine LeO.bind ?_ (fun _ => ?_)
set_option maxHeartbeats 8000000 in
set_option maxRecDepth 100000 in
theorem halyardref06_Put.calls (k : Nat) (a0 : Int) (a1 : ByteArray) (a2_0 : Bool) (a2_1 : Bool) (r1 : ByteArray) (r2 : Int) (w : World) (h : halyardref06_Put.f k a0 a1 a2_0 a2_1 = some (r1, r2)) :
    Calls Try.prog 28 #[.int .u16 a0, .string a1, .agg #[.bool a2_0, .bool a2_1]] w fun e w' => e = .returned (.tuple #[.string r1, .int .i64 r2]) ∧ Below w.heap.size w w' := by
  have hu38 := Try.underlying38
  have HB := Aside0.mk (Below.refl w.heap.size w)
  have H : ((halyardref06_May.f a0).bind fun t121 => (if t121 = true then (if a2_0 = true then (halyardref06_Put.j0 k a0 a1 ([] : List Int) (a0 == 49185) a2_0 a2_1) else (halyardref06_Put.j0 k a0 a1 ([] : List Int) true a2_0 a2_1)) else (some ((⟨#[]⟩ : ByteArray), 2)))) = some (r1, r2) := h
  clear h
  replace H := Option.bind_eq_some_iff.mp H
  obtain ⟨t121, A40, H⟩ := H
  replace H : (if t121 = true then (if a2_0 = true then (halyardref06_Put.j0 k a0 a1 ([] : List Int) (a0 == 49185) a2_0 a2_1) else (halyardref06_Put.j0 k a0 a1 ([] : List Int) true a2_0 a2_1)) else (some ((⟨#[]⟩ : ByteArray), 2))) = some (r1, r2) := H
  have A4 := Aside0.mk A40
  clear A40
  by_cases c5 : t121 = true
  · subst c5
    have H1 : (if a2_0 = true then (halyardref06_Put.j0 k a0 a1 ([] : List Int) (a0 == 49185) a2_0 a2_1) else (halyardref06_Put.j0 k a0 a1 ([] : List Int) true a2_0 a2_1)) = some (r1, r2) := by rw [if_pos rfl] at H; exact H
    clear H
    have H := H1
    clear H1
    have HC6 := Aside0.mk H
    clear H
    go_enter Try.func28, Try.ntmps28
    go_upto_region 4 with (first | ((with_reducible refine gate_dst (N := 5) rfl ?_); refine box_event ?hg (N := 5) ?hd (cs := #[.bool a2_0, .bool a2_1]) (t := 38) ?hr ?_; (case hd => rfl); (case hg => rfl); (case hr => first | (go_simp; done) | (go_simp; rfl)); intro gb120 hg w7 hbox hb; have n0_ := Aside0.mk (below_step (by repeat (first | (with_reducible first | exact HB.out | apply below_alloc | apply pw_below_drewN | apply below_drew1) | exact HB.out)) hb); have n1_ := Aside0.mk (hbox); have n2_ := Aside0.mk ((by rw [hg]; exact (below_size (by repeat (first | (with_reducible first | exact HB.out | apply below_alloc | apply pw_below_drewN | apply below_drew1) | exact HB.out))) : w.heap.size ≤ gb120)); have n3_ := Aside0.mk ((by rw [hg]; exact (below_size (by repeat (first | (with_reducible first | exact HB.out | apply below_alloc | apply pw_below_drewN | apply below_drew1) | exact HB.out))) : w.heap.size ≤ gb120)); clear HB; have HB := n0_; have BK120 := n1_; have GW120 := n2_; have GE120 := n3_; clear n0_ n1_ n2_ n3_; clear hb hbox hg) | ((with_reducible refine gate_callee (f := 32) rfl ?_); refine goesL_ (some 10) rfl rfl Try.func32 (by kernel_rfl) rfl #[.int .u16 a0] rfl (by (try simp only [List.map_toArray, List.map_cons, List.map_nil]); first | done | rfl | (simp only [List.length_drop, List.length_take]; rfl)) ?_; (with_reducible refine (halyardref06_May.calls a0 true _ A4.out).mono ?_); rintro e w' ⟨rfl, ⟨nd, rfl⟩⟩; refine ⟨_, rfl, ?_⟩))
    (try simp only [Act.put, List.setIfInBounds_toArray, List.set_cons_zero, List.set_cons_succ])
    go_cut [18] (fun v18 wc => ∃ (kq : Nat) (x18_5 : Bool), v18 = .bool x18_5 ∧ Aside0 (halyardref06_Put.j0 kq a0 a1 ([] : List Int) x18_5 a2_0 a2_1 = some (r1, r2)) ∧ Aside0 (kq ≤ k) ∧ Aside0 (Kd.R (Kd.int .u8) 5 wc w.heap.size (fun _ => True) (.slice none 0 0) ([] : List Int)) ∧ Aside0 (wc.heap[gb120]? = some (.cells #[.bool a2_0, .bool a2_1] 38 (0, 0))) ∧ Aside0 (Below w.heap.size w wc))
    case first =>
      have H := HC6.out
      clear HC6
      by_cases c8 : a2_0 = true
      · subst c8
        have H1 : (halyardref06_Put.j0 k a0 a1 ([] : List Int) (a0 == 49185) true a2_1) = some (r1, r2) := by rw [if_pos rfl] at H; exact H
        clear H
        have H := H1
        clear H1
        have H' := Aside0.mk H
        clear H
        have hcz9_0 : w7.cell? ⟨gb120, 0, none⟩ = some (.bool true) := (blk_cell BK120.out 0).trans rfl
        have hcz9_1 : w7.cell? ⟨gb120, 1, none⟩ = some (.bool a2_1) := (blk_cell BK120.out 1).trans rfl
        have hfz9_0 := blk_frozen BK120.out 0
        have hfz9_1 := blk_frozen BK120.out 1
        go_wp2
        go_meet
        case rel => exact ⟨_, ((a0 == 49185)), (by first | rfl | (simp; done) | (simp [*]; done)), H', ⟨by first | omega | exact Nat.le_refl _⟩, ⟨by first | exact Kd.R_nil _ _ _ _ _ | exact Kd.N_nil _ _ _ _ _ | exact Kd.V_nil _ _ _ _ _ | exact Kd.Q_nil _ _ _ _ _ | exact Kd.S_nil _ _ _ _ _⟩, ⟨by (with_reducible repeat (first | refine blk_drewN ?_ _ | refine blk_drew ?_ | refine blk_alloc ?_ _)); exact BK120.out⟩, ⟨by repeat (first | (with_reducible first | exact HB.out | apply below_alloc | apply pw_below_drewN | apply below_drew1 | refine below_set ?_ GE120.out) | exact HB.out)⟩⟩
      · replace c8 := Bool.eq_false_iff.mpr c8
        subst c8
        have H1 : (halyardref06_Put.j0 k a0 a1 ([] : List Int) true false a2_1) = some (r1, r2) := by rw [if_neg (show ¬ (false = true) by decide)] at H; exact H
        clear H
        have H := H1
        clear H1
        have H' := Aside0.mk H
        clear H
        have hcz10_0 : w7.cell? ⟨gb120, 0, none⟩ = some (.bool false) := (blk_cell BK120.out 0).trans rfl
        have hcz10_1 : w7.cell? ⟨gb120, 1, none⟩ = some (.bool a2_1) := (blk_cell BK120.out 1).trans rfl
        have hfz10_0 := blk_frozen BK120.out 0
        have hfz10_1 := blk_frozen BK120.out 1
        go_wp2
        go_meet
        case rel => exact ⟨_, (true), (by first | rfl | (simp; done) | (simp [*]; done)), H', ⟨by first | omega | exact Nat.le_refl _⟩, ⟨by first | exact Kd.R_nil _ _ _ _ _ | exact Kd.N_nil _ _ _ _ _ | exact Kd.V_nil _ _ _ _ _ | exact Kd.Q_nil _ _ _ _ _ | exact Kd.S_nil _ _ _ _ _⟩, ⟨by (with_reducible repeat (first | refine blk_drewN ?_ _ | refine blk_drew ?_ | refine blk_alloc ?_ _)); exact BK120.out⟩, ⟨by repeat (first | (with_reducible first | exact HB.out | apply below_alloc | apply pw_below_drewN | apply below_drew1 | refine below_set ?_ GE120.out) | exact HB.out)⟩⟩
    case rest =>
      clear HC6
      try clear c2
      try clear p2
      try clear c3
      try clear c5
      try clear c8
      try clear hcz10_0
      try clear hcz10_1
      try clear hcz9_0
      try clear hcz9_1
      try clear hfz10_0
      try clear hfz10_1
      try clear hfz9_0
      try clear hfz9_1
      obtain ⟨kq, x18_5, rfl, HA, HJ5, HO_8, BK120, HB⟩ := hcut
      cases kq with
      | zero => exact absurd HA.out (by simp [halyardref06_Put.j0])
      | succ kj5 =>
        have H := HA.out
        clear HA
        simp only [halyardref06_Put.j0] at H
        by_cases c11 : x18_5 = true
        · subst c11
          have H1 : ((some (([255, 3] : List Int) : List Int)).bind fun y122 => (if ([] : List Int).length + y122.length < 140737488355328 then ((some (([] : List Int) ++ y122 : List Int)).bind fun y125 => (if a2_1 = true then (if (IntKind.u16.wrap (Int.tdiv a0 256)) = 0 then (if a0 = 49185 then (if y125.length < 140737488355328 then ((some (y125 ++ [(IntKind.u16.wrap (Int.tdiv a0 256)) % 256] : List Int)).bind fun y128 => (if y128.length < 140737488355328 then ((some (y128 ++ [(Int.tmod a0 256) % 256] : List Int)).bind fun y131 => (if (strOfNums y131).size + a1.size ≤ 9223372036854775807 then (some ((strOfNums y131) ++ a1, 0)) else (none))) else (none))) else (none)) else (if y125.length < 140737488355328 then ((some (y125 ++ [(Int.tmod a0 256) % 256] : List Int)).bind fun y134 => (if (strOfNums y134).size + a1.size ≤ 9223372036854775807 then (some ((strOfNums y134) ++ a1, 0)) else (none))) else (none))) else (if y125.length < 140737488355328 then ((some (y125 ++ [(IntKind.u16.wrap (Int.tdiv a0 256)) % 256] : List Int)).bind fun y137 => (if y137.length < 140737488355328 then ((some (y137 ++ [(Int.tmod a0 256) % 256] : List Int)).bind fun y140 => (if (strOfNums y140).size + a1.size ≤ 9223372036854775807 then (some ((strOfNums y140) ++ a1, 0)) else (none))) else (none))) else (none))) else (if y125.length < 140737488355328 then ((some (y125 ++ [(IntKind.u16.wrap (Int.tdiv a0 256)) % 256] : List Int)).bind fun y143 => (if y143.length < 140737488355328 then ((some (y143 ++ [(Int.tmod a0 256) % 256] : List Int)).bind fun y146 => (if (strOfNums y146).size + a1.size ≤ 9223372036854775807 then (some ((strOfNums y146) ++ a1, 0)) else (none))) else (none))) else (none)))) else (none))) = some (r1, r2) := by rw [if_pos rfl] at H; exact H
          clear H
          have H := H1
          clear H1
          obtain ⟨y122, hy122⟩ : ∃ y_ : List Int, y_ = (([255, 3] : List Int)) := ⟨_, rfl⟩
          replace H : (if ([] : List Int).length + y122.length < 140737488355328 then ((some (([] : List Int) ++ y122 : List Int)).bind fun y125 => (if a2_1 = true then (if (IntKind.u16.wrap (Int.tdiv a0 256)) = 0 then (if a0 = 49185 then (if y125.length < 140737488355328 then ((some (y125 ++ [(IntKind.u16.wrap (Int.tdiv a0 256)) % 256] : List Int)).bind fun y128 => (if y128.length < 140737488355328 then ((some (y128 ++ [(Int.tmod a0 256) % 256] : List Int)).bind fun y131 => (if (strOfNums y131).size + a1.size ≤ 9223372036854775807 then (some ((strOfNums y131) ++ a1, 0)) else (none))) else (none))) else (none)) else (if y125.length < 140737488355328 then ((some (y125 ++ [(Int.tmod a0 256) % 256] : List Int)).bind fun y134 => (if (strOfNums y134).size + a1.size ≤ 9223372036854775807 then (some ((strOfNums y134) ++ a1, 0)) else (none))) else (none))) else (if y125.length < 140737488355328 then ((some (y125 ++ [(IntKind.u16.wrap (Int.tdiv a0 256)) % 256] : List Int)).bind fun y137 => (if y137.length < 140737488355328 then ((some (y137 ++ [(Int.tmod a0 256) % 256] : List Int)).bind fun y140 => (if (strOfNums y140).size + a1.size ≤ 9223372036854775807 then (some ((strOfNums y140) ++ a1, 0)) else (none))) else (none))) else (none))) else (if y125.length < 140737488355328 then ((some (y125 ++ [(IntKind.u16.wrap (Int.tdiv a0 256)) % 256] : List Int)).bind fun y143 => (if y143.length < 140737488355328 then ((some (y143 ++ [(Int.tmod a0 256) % 256] : List Int)).bind fun y146 => (if (strOfNums y146).size + a1.size ≤ 9223372036854775807 then (some ((strOfNums y146) ++ a1, 0)) else (none))) else (none))) else (none)))) else (none)) = some (r1, r2) := by first | (rw [hy122]; with_reducible exact H) | (have H2_ := (Option.bind_some _ _).symm.trans H; rw [hy122]; with_reducible exact H2_) | (have H2_ := (Option.bind_some _ _).symm.trans H; with_reducible exact H2_) | with_reducible exact H | (rw [hy122]; exact H) | exact H
          have Ny122 := Aside0.mk hy122
          clear hy122
          by_cases c12 : ([] : List Int).length + y122.length < 140737488355328
          · rw [if_pos c12] at H
            have LMc12 := Aside0.mk c12
            clear c12
            obtain ⟨y125, hy125⟩ : ∃ y_ : List Int, y_ = (([] : List Int) ++ y122) := ⟨_, rfl⟩
            replace H : (if a2_1 = true then (if (IntKind.u16.wrap (Int.tdiv a0 256)) = 0 then (if a0 = 49185 then (if y125.length < 140737488355328 then ((some (y125 ++ [(IntKind.u16.wrap (Int.tdiv a0 256)) % 256] : List Int)).bind fun y128 => (if y128.length < 140737488355328 then ((some (y128 ++ [(Int.tmod a0 256) % 256] : List Int)).bind fun y131 => (if (strOfNums y131).size + a1.size ≤ 9223372036854775807 then (some ((strOfNums y131) ++ a1, 0)) else (none))) else (none))) else (none)) else (if y125.length < 140737488355328 then ((some (y125 ++ [(Int.tmod a0 256) % 256] : List Int)).bind fun y134 => (if (strOfNums y134).size + a1.size ≤ 9223372036854775807 then (some ((strOfNums y134) ++ a1, 0)) else (none))) else (none))) else (if y125.length < 140737488355328 then ((some (y125 ++ [(IntKind.u16.wrap (Int.tdiv a0 256)) % 256] : List Int)).bind fun y137 => (if y137.length < 140737488355328 then ((some (y137 ++ [(Int.tmod a0 256) % 256] : List Int)).bind fun y140 => (if (strOfNums y140).size + a1.size ≤ 9223372036854775807 then (some ((strOfNums y140) ++ a1, 0)) else (none))) else (none))) else (none))) else (if y125.length < 140737488355328 then ((some (y125 ++ [(IntKind.u16.wrap (Int.tdiv a0 256)) % 256] : List Int)).bind fun y143 => (if y143.length < 140737488355328 then ((some (y143 ++ [(Int.tmod a0 256) % 256] : List Int)).bind fun y146 => (if (strOfNums y146).size + a1.size ≤ 9223372036854775807 then (some ((strOfNums y146) ++ a1, 0)) else (none))) else (none))) else (none))) = some (r1, r2) := by first | (rw [hy125]; with_reducible exact H) | (have H2_ := (Option.bind_some _ _).symm.trans H; rw [hy125]; with_reducible exact H2_) | (have H2_ := (Option.bind_some _ _).symm.trans H; with_reducible exact H2_) | with_reducible exact H | (rw [hy125]; exact H) | exact H
            have Ny125 := Aside0.mk hy125
            clear hy125
            by_cases c13 : a2_1 = true
            · subst c13
              have H1 : (if (IntKind.u16.wrap (Int.tdiv a0 256)) = 0 then (if a0 = 49185 then (if y125.length < 140737488355328 then ((some (y125 ++ [(IntKind.u16.wrap (Int.tdiv a0 256)) % 256] : List Int)).bind fun y128 => (if y128.length < 140737488355328 then ((some (y128 ++ [(Int.tmod a0 256) % 256] : List Int)).bind fun y131 => (if (strOfNums y131).size + a1.size ≤ 9223372036854775807 then (some ((strOfNums y131) ++ a1, 0)) else (none))) else (none))) else (none)) else (if y125.length < 140737488355328 then ((some (y125 ++ [(Int.tmod a0 256) % 256] : List Int)).bind fun y134 => (if (strOfNums y134).size + a1.size ≤ 9223372036854775807 then (some ((strOfNums y134) ++ a1, 0)) else (none))) else (none))) else (if y125.length < 140737488355328 then ((some (y125 ++ [(IntKind.u16.wrap (Int.tdiv a0 256)) % 256] : List Int)).bind fun y137 => (if y137.length < 140737488355328 then ((some (y137 ++ [(Int.tmod a0 256) % 256] : List Int)).bind fun y140 => (if (strOfNums y140).size + a1.size ≤ 9223372036854775807 then (some ((strOfNums y140) ++ a1, 0)) else (none))) else (none))) else (none))) = some (r1, r2) := by rw [if_pos rfl] at H; exact H
              clear H
              have H := H1
              clear H1
              by_cases c14 : (IntKind.u16.wrap (Int.tdiv a0 256)) = 0
              · rw [if_pos c14] at H
                have c14b0 : ((IntKind.u16.wrap (Int.tdiv a0 256)) == 0) = true := beq_iff_eq.mpr c14
                have c14b1 : ((IntKind.u16.wrap (Int.tdiv a0 256)) != 0) = false := bne_eq_false_iff_eq.mpr c14
                clear c14
                by_cases c15 : a0 = 49185
                · rw [if_pos c15] at H
                  have c15b0 : (a0 == 49185) = true := beq_iff_eq.mpr c15
                  have c15b1 : (a0 != 49185) = false := bne_eq_false_iff_eq.mpr c15
                  clear c15
                  by_cases c16 : y125.length < 140737488355328
                  · rw [if_pos c16] at H
                    have LMc16 := Aside0.mk c16
                    clear c16
                    obtain ⟨y128, hy128⟩ : ∃ y_ : List Int, y_ = (y125 ++ [(IntKind.u16.wrap (Int.tdiv a0 256)) % 256]) := ⟨_, rfl⟩
                    replace H : (if y128.length < 140737488355328 then ((some (y128 ++ [(Int.tmod a0 256) % 256] : List Int)).bind fun y131 => (if (strOfNums y131).size + a1.size ≤ 9223372036854775807 then (some ((strOfNums y131) ++ a1, 0)) else (none))) else (none)) = some (r1, r2) := by first | (rw [hy128]; with_reducible exact H) | (have H2_ := (Option.bind_some _ _).symm.trans H; rw [hy128]; with_reducible exact H2_) | (have H2_ := (Option.bind_some _ _).symm.trans H; with_reducible exact H2_) | with_reducible exact H | (rw [hy128]; exact H) | exact H
                    have Ny128 := Aside0.mk hy128
                    clear hy128
                    by_cases c17 : y128.length < 140737488355328
                    · rw [if_pos c17] at H
                      have LMc17 := Aside0.mk c17
                      clear c17
                      obtain ⟨y131, hy131⟩ : ∃ y_ : List Int, y_ = (y128 ++ [(Int.tmod a0 256) % 256]) := ⟨_, rfl⟩
                      replace H : (if (strOfNums y131).size + a1.size ≤ 9223372036854775807 then (some ((strOfNums y131) ++ a1, 0)) else (none)) = some (r1, r2) := by first | (rw [hy131]; with_reducible exact H) | (have H2_ := (Option.bind_some _ _).symm.trans H; rw [hy131]; with_reducible exact H2_) | (have H2_ := (Option.bind_some _ _).symm.trans H; with_reducible exact H2_) | with_reducible exact H | (rw [hy131]; exact H) | exact H
                      have Ny131 := Aside0.mk hy131
                      clear hy131
                      by_cases c18 : (strOfNums y131).size + a1.size ≤ 9223372036854775807
                      · rw [if_pos c18] at H
                        have c18b0 := eq_true c18
                        have c18b1 : decide ((strOfNums y131).size + a1.size ≤ 9223372036854775807) = true := decide_eq_true c18
                        try have c18b2 : (9223372036854775807 < (strOfNums y131).size + a1.size) = False := eq_false (Nat.not_lt.2 c18)
                        simp only [Option.some.injEq, Prod.mk.injEq] at H
                        obtain ⟨rfl, rfl⟩ := H
                        go_wp2_with (first | ((with_reducible refine gate_dst (N := 20) rfl ?_); refine Kd.R_lit (Kd.int .u8) _ 5 ?hg (N := 20) ?hd (xs := ([255, 3] : List Int)) (inner := [.int .u8 255, .int .u8 3]) (ok := fun _ => True) (okp := fun _ => True) ?hr ?hp (fun _ hk => hk) trivial (Below.refl _ _) (Nat.le_refl _) (by simp) ?_; (case hd => rfl); (case hg => rfl); (case hr => first | (go_simp; done) | (go_simp; rfl)); (case hp => exact (Reps.one (show Kd.M (Kd.int .u8) _ _ _ 255 [.int .u8 255] from rfl) (Reps.one (show Kd.M (Kd.int .u8) _ _ _ 3 [.int .u8 3] from rfl) (Reps.none _ _)))); intro v123 w19 ho20 hb hg_ hnew_; clear hg_ hnew_; (first | rw [← Ny122.out] at ho20 | (simp only [Int.reduceToNat] at ho20; rw [← Ny122.out] at ho20)); have n0_ := Aside0.mk (Kd.R_elder' (by (with_reducible repeat (first | apply Kd.R_alloc | apply Kd.R_drewN | apply Kd.R_drew)); exact HO_8.out) (Kd.R_base ho20) hb); have n1_ := Aside0.mk (Kd.R_lower (Kd.R_new' ho20 (Kd.R_lt (by (with_reducible repeat (first | apply Kd.R_alloc | apply Kd.R_drewN | apply Kd.R_drew)); exact HO_8.out))) (below_size (by repeat (first | (with_reducible first | exact HB.out | apply below_alloc | apply pw_below_drewN | apply below_drew1 | refine below_set ?_ GE120.out) | exact HB.out)))); have n2_ := Aside0.mk (blk_below (g := gb120) (o := .cells #[.bool a2_0, .bool true] 38 (0, 0)) (by (with_reducible repeat (first | refine blk_drewN ?_ _ | refine blk_drew ?_ | refine blk_alloc ?_ _)); exact BK120.out) hb); have n3_ := Aside0.mk (below_step (by repeat (first | (with_reducible first | exact HB.out | apply below_alloc | apply pw_below_drewN | apply below_drew1 | refine below_set ?_ GE120.out) | exact HB.out)) hb); clear HO_8; clear BK120; clear HB; have HO_8 := n0_; have HO124 := n1_; have BK120 := n2_; have HB := n3_; clear n0_ n1_ n2_ n3_; clear hb ho20; obtain ⟨Ao22, co22, eo22⟩ := Kd.R_slice HO124.out; subst eo22) | ((with_reducible refine gate_builtin (b := .append) (xs := #[.tmp 19, .tmp 20]) rfl ?_); at_builtin; refine Kd.R_append_rows (Kd.int .u8) (w0 := w) w.heap.size rfl (.tmp 19) (.tmp 20) 98 5 (.int .u8 0) 1 rfl Try.underlying98 info5 rfl (by decide) (by omega) (.slice none 0 0) ([] : List Int) y122 _ _ _ (fun k_ => some k_ ≠ (.slice Ao22 y122.length co22 : Value).ownBlock) (fun _ => False) rfl rfl ?aO ?aR (fun _ _ h => h) (fun _ h => h.elim) ?aF ?aB ?aS ?aL ?_; (case aR => repeat (first | exact (Kd.R_reads' HO124.out).2.2 | (with_reducible refine Kd.C_alloc ?_ _) | (with_reducible refine Kd.C_drewN ?_ _) | (with_reducible refine Kd.C_drew ?_))); (case aB => exact (by repeat (first | (with_reducible first | exact HB.out | apply below_alloc | apply pw_below_drewN | apply below_drew1 | refine below_set ?_ GE120.out) | exact HB.out))); (case aF => exact (fun k_ hk => Kd.fresh' (Kd.R_lt (by (with_reducible repeat (first | apply Kd.R_alloc | apply Kd.R_drewN | apply Kd.R_drew)); exact HO124.out)) k_ hk)); (case aO => exact (by (with_reducible repeat (first | apply Kd.R_alloc | apply Kd.R_drewN | apply Kd.R_drew)); exact Kd.R_mono HO_8.out (fun _ hk => hk.2))); (case aS => exact (below_size (by repeat (first | (with_reducible first | exact HB.out | apply below_alloc | apply pw_below_drewN | apply below_drew1 | refine below_set ?_ GE120.out) | exact HB.out)))); (case aL => have := LMc12.out; omega); intro v126 w21 ho hb hg hat; rw [← Ny125.out] at ho; have n0_ := Aside0.mk (blk_grown (g := gb120) (o := .cells #[.bool a2_0, .bool true] 38 (0, 0)) (by (with_reducible repeat (first | refine blk_drewN ?_ _ | refine blk_drew ?_ | refine blk_alloc ?_ _)); exact BK120.out) hg (Kd.R_ne HO_8.out BK120.out (by decide))); have n1_ := Aside0.mk (Kd.R_after (ok := (fun _ => True)) (by (with_reducible repeat (first | apply Kd.R_alloc | apply Kd.R_drewN | apply Kd.R_drew)); exact HO124.out) hg hat); have n2_ := Aside0.mk (hb); have n3_ := Aside0.mk (ho); clear BK120; clear HO124; clear HB; clear HO_8; have BK120 := n0_; have HO124 := n1_; have HB := n2_; have HO127 := n3_; clear n0_ n1_ n2_ n3_; clear ho hb hg hat; have hcz23_0 : w21.cell? ⟨gb120, 0, none⟩ = some (.bool a2_0) := (blk_cell BK120.out 0).trans rfl; have hcz23_1 : w21.cell? ⟨gb120, 1, none⟩ = some (.bool true) := (blk_cell BK120.out 1).trans rfl; have hfz23_0 := blk_frozen BK120.out 0; have hfz23_1 := blk_frozen BK120.out 1) | ((with_reducible refine gate_builtin (b := .append) (xs := #[.tmp 34, .tmp 38]) rfl ?_); at_builtin; refine Kd.R_append (Kd.int .u8) (w0 := w) w.heap.size rfl (.tmp 34) (.tmp 38) 98 5 (.int .u8 0) 1 rfl Try.underlying98 info5 rfl (by decide) (by omega) v126 y125 ((IntKind.u16.wrap (Int.tdiv a0 256)) % 256) [.int .u8 ((IntKind.u16.wrap (Int.tdiv a0 256)) % 256)] (fun k_ => some k_ ≠ (.slice Ao22 y122.length co22 : Value).ownBlock) (fun _ => False) rfl rfl ?aP (fun _ hk => hk.elim) ?aF ?aO ?aB ?aS ?aL ?_; (case aP => exact rfl); (case aB => exact (by repeat (first | (with_reducible first | exact HB.out | apply below_alloc | apply pw_below_drewN | apply below_drew1 | refine below_set ?_ GE120.out) | exact HB.out))); (case aF => exact (fun k_ hk => Kd.fresh' (Kd.R_lt (by (with_reducible repeat (first | apply Kd.R_alloc | apply Kd.R_drewN | apply Kd.R_drew)); exact HO124.out)) k_ hk)); (case aO => exact (by (with_reducible repeat (first | apply Kd.R_alloc | apply Kd.R_drewN | apply Kd.R_drew)); exact HO127.out)); (case aS => exact (below_size (by repeat (first | (with_reducible first | exact HB.out | apply below_alloc | apply pw_below_drewN | apply below_drew1 | refine below_set ?_ GE120.out) | exact HB.out)))); (case aL => have := LMc16.out; omega); intro v129 w24 ho hb hg hat; rw [← Ny128.out] at ho; have n0_ := Aside0.mk (blk_grown (g := gb120) (o := .cells #[.bool a2_0, .bool true] 38 (0, 0)) (by (with_reducible repeat (first | refine blk_drewN ?_ _ | refine blk_drew ?_ | refine blk_alloc ?_ _)); exact BK120.out) hg (Kd.R_ne HO127.out BK120.out (by decide))); have n1_ := Aside0.mk (Kd.R_after (ok := (fun _ => True)) (by (with_reducible repeat (first | apply Kd.R_alloc | apply Kd.R_drewN | apply Kd.R_drew)); exact HO124.out) hg hat); have n2_ := Aside0.mk (hb); have n3_ := Aside0.mk (ho); clear BK120; clear HO124; clear HB; clear HO127; have BK120 := n0_; have HO124 := n1_; have HB := n2_; have HO130 := n3_; clear n0_ n1_ n2_ n3_; clear ho hb hg hat) | ((with_reducible refine gate_builtin (b := .append) (xs := #[.tmp 40, .tmp 44]) rfl ?_); at_builtin; refine Kd.R_append (Kd.int .u8) (w0 := w) w.heap.size rfl (.tmp 40) (.tmp 44) 98 5 (.int .u8 0) 1 rfl Try.underlying98 info5 rfl (by decide) (by omega) v129 y128 ((Int.tmod a0 256) % 256) [.int .u8 ((Int.tmod a0 256) % 256)] (fun k_ => some k_ ≠ (.slice Ao22 y122.length co22 : Value).ownBlock) (fun _ => False) rfl rfl ?aP (fun _ hk => hk.elim) ?aF ?aO ?aB ?aS ?aL ?_; (case aP => exact rfl); (case aB => exact (by repeat (first | (with_reducible first | exact HB.out | apply below_alloc | apply pw_below_drewN | apply below_drew1 | refine below_set ?_ GE120.out) | exact HB.out))); (case aF => exact (fun k_ hk => Kd.fresh' (Kd.R_lt (by (with_reducible repeat (first | apply Kd.R_alloc | apply Kd.R_drewN | apply Kd.R_drew)); exact HO124.out)) k_ hk)); (case aO => exact (by (with_reducible repeat (first | apply Kd.R_alloc | apply Kd.R_drewN | apply Kd.R_drew)); exact HO130.out)); (case aS => exact (below_size (by repeat (first | (with_reducible first | exact HB.out | apply below_alloc | apply pw_below_drewN | apply below_drew1 | refine below_set ?_ GE120.out) | exact HB.out)))); (case aL => have := LMc17.out; omega); intro v132 w25 ho hb hg hat; rw [← Ny131.out] at ho; have n0_ := Aside0.mk (blk_grown (g := gb120) (o := .cells #[.bool a2_0, .bool true] 38 (0, 0)) (by (with_reducible repeat (first | refine blk_drewN ?_ _ | refine blk_drew ?_ | refine blk_alloc ?_ _)); exact BK120.out) hg (Kd.R_ne HO130.out BK120.out (by decide))); have n1_ := Aside0.mk (Kd.R_after (ok := (fun _ => True)) (by (with_reducible repeat (first | apply Kd.R_alloc | apply Kd.R_drewN | apply Kd.R_drew)); exact HO124.out) hg hat); have n2_ := Aside0.mk (hb); have n3_ := Aside0.mk (ho); clear BK120; clear HO124; clear HB; clear HO130; have BK120 := n0_; have HO124 := n1_; have HB := n2_; have HO133 := n3_; clear n0_ n1_ n2_ n3_; clear ho hb hg hat; have hcv26 := own_string (P := Try.prog) Try.underlying98 Try.underlying5 Try.underlying9 (Kd.own_of_R HO133.out)))
                        go_ret2
                        exact ⟨by first | rfl | (simp [errW_none, errW_some] <;> rfl) | (simp [*, errW_none, errW_some] <;> rfl), by repeat (first | (with_reducible first | exact HB.out | apply below_alloc | apply pw_below_drewN | apply below_drew1 | refine below_set ?_ GE120.out) | exact HB.out)⟩
                      · rw [if_neg c18] at H
                        exact absurd H (by simp)
                    · rw [if_neg c17] at H
                      exact absurd H (by simp)
                  · rw [if_neg c16] at H
                    exact absurd H (by simp)
                · rw [if_neg c15] at H
                  have c15b0 : (a0 == 49185) = false := beq_eq_false_iff_ne.mpr c15
                  have c15b1 : (a0 != 49185) = true := bne_iff_ne.mpr c15
                  by_cases c27 : y125.length < 140737488355328
                  · rw [if_pos c27] at H
                    have LMc27 := Aside0.mk c27
                    clear c27
                    obtain ⟨y134, hy134⟩ : ∃ y_ : List Int, y_ = (y125 ++ [(Int.tmod a0 256) % 256]) := ⟨_, rfl⟩
                    replace H : (if (strOfNums y134).size + a1.size ≤ 9223372036854775807 then (some ((strOfNums y134) ++ a1, 0)) else (none)) = some (r1, r2) := by first | (rw [hy134]; with_reducible exact H) | (have H2_ := (Option.bind_some _ _).symm.trans H; rw [hy134]; with_reducible exact H2_) | (have H2_ := (Option.bind_some _ _).symm.trans H; with_reducible exact H2_) | with_reducible exact H | (rw [hy134]; exact H) | exact H
                    have Ny134 := Aside0.mk hy134
                    clear hy134
                    by_cases c28 : (strOfNums y134).size + a1.size ≤ 9223372036854775807
                    · rw [if_pos c28] at H
                      have c28b0 := eq_true c28
                      have c28b1 : decide ((strOfNums y134).size + a1.size ≤ 9223372036854775807) = true := decide_eq_true c28
                      try have c28b2 : (9223372036854775807 < (strOfNums y134).size + a1.size) = False := eq_false (Nat.not_lt.2 c28)
                      simp only [Option.some.injEq, Prod.mk.injEq] at H
                      obtain ⟨rfl, rfl⟩ := H
                      go_wp2_with (first | ((with_reducible refine gate_dst (N := 20) rfl ?_); refine Kd.R_lit (Kd.int .u8) _ 5 ?hg (N := 20) ?hd (xs := ([255, 3] : List Int)) (inner := [.int .u8 255, .int .u8 3]) (ok := fun _ => True) (okp := fun _ => True) ?hr ?hp (fun _ hk => hk) trivial (Below.refl _ _) (Nat.le_refl _) (by simp) ?_; (case hd => rfl); (case hg => rfl); (case hr => first | (go_simp; done) | (go_simp; rfl)); (case hp => exact (Reps.one (show Kd.M (Kd.int .u8) _ _ _ 255 [.int .u8 255] from rfl) (Reps.one (show Kd.M (Kd.int .u8) _ _ _ 3 [.int .u8 3] from rfl) (Reps.none _ _)))); intro v123 w29 ho30 hb hg_ hnew_; clear hg_ hnew_; (first | rw [← Ny122.out] at ho30 | (simp only [Int.reduceToNat] at ho30; rw [← Ny122.out] at ho30)); have n0_ := Aside0.mk (Kd.R_elder' (by (with_reducible repeat (first | apply Kd.R_alloc | apply Kd.R_drewN | apply Kd.R_drew)); exact HO_8.out) (Kd.R_base ho30) hb); have n1_ := Aside0.mk (Kd.R_lower (Kd.R_new' ho30 (Kd.R_lt (by (with_reducible repeat (first | apply Kd.R_alloc | apply Kd.R_drewN | apply Kd.R_drew)); exact HO_8.out))) (below_size (by repeat (first | (with_reducible first | exact HB.out | apply below_alloc | apply pw_below_drewN | apply below_drew1 | refine below_set ?_ GE120.out) | exact HB.out)))); have n2_ := Aside0.mk (blk_below (g := gb120) (o := .cells #[.bool a2_0, .bool true] 38 (0, 0)) (by (with_reducible repeat (first | refine blk_drewN ?_ _ | refine blk_drew ?_ | refine blk_alloc ?_ _)); exact BK120.out) hb); have n3_ := Aside0.mk (below_step (by repeat (first | (with_reducible first | exact HB.out | apply below_alloc | apply pw_below_drewN | apply below_drew1 | refine below_set ?_ GE120.out) | exact HB.out)) hb); clear HO_8; clear BK120; clear HB; have HO_8 := n0_; have HO124 := n1_; have BK120 := n2_; have HB := n3_; clear n0_ n1_ n2_ n3_; clear hb ho30; obtain ⟨Ao32, co32, eo32⟩ := Kd.R_slice HO124.out; subst eo32) | ((with_reducible refine gate_builtin (b := .append) (xs := #[.tmp 19, .tmp 20]) rfl ?_); at_builtin; refine Kd.R_append_rows (Kd.int .u8) (w0 := w) w.heap.size rfl (.tmp 19) (.tmp 20) 98 5 (.int .u8 0) 1 rfl Try.underlying98 info5 rfl (by decide) (by omega) (.slice none 0 0) ([] : List Int) y122 _ _ _ (fun k_ => some k_ ≠ (.slice Ao32 y122.length co32 : Value).ownBlock) (fun _ => False) rfl rfl ?aO ?aR (fun _ _ h => h) (fun _ h => h.elim) ?aF ?aB ?aS ?aL ?_; (case aR => repeat (first | exact (Kd.R_reads' HO124.out).2.2 | (with_reducible refine Kd.C_alloc ?_ _) | (with_reducible refine Kd.C_drewN ?_ _) | (with_reducible refine Kd.C_drew ?_))); (case aB => exact (by repeat (first | (with_reducible first | exact HB.out | apply below_alloc | apply pw_below_drewN | apply below_drew1 | refine below_set ?_ GE120.out) | exact HB.out))); (case aF => exact (fun k_ hk => Kd.fresh' (Kd.R_lt (by (with_reducible repeat (first | apply Kd.R_alloc | apply Kd.R_drewN | apply Kd.R_drew)); exact HO124.out)) k_ hk)); (case aO => exact (by (with_reducible repeat (first | apply Kd.R_alloc | apply Kd.R_drewN | apply Kd.R_drew)); exact Kd.R_mono HO_8.out (fun _ hk => hk.2))); (case aS => exact (below_size (by repeat (first | (with_reducible first | exact HB.out | apply below_alloc | apply pw_below_drewN | apply below_drew1 | refine below_set ?_ GE120.out) | exact HB.out)))); (case aL => have := LMc12.out; omega); intro v126 w31 ho hb hg hat; rw [← Ny125.out] at ho; have n0_ := Aside0.mk (blk_grown (g := gb120) (o := .cells #[.bool a2_0, .bool true] 38 (0, 0)) (by (with_reducible repeat (first | refine blk_drewN ?_ _ | refine blk_drew ?_ | refine blk_alloc ?_ _)); exact BK120.out) hg (Kd.R_ne HO_8.out BK120.out (by decide))); have n1_ := Aside0.mk (Kd.R_after (ok := (fun _ => True)) (by (with_reducible repeat (first | apply Kd.R_alloc | apply Kd.R_drewN | apply Kd.R_drew)); exact HO124.out) hg hat); have n2_ := Aside0.mk (hb); have n3_ := Aside0.mk (ho); clear BK120; clear HO124; clear HB; clear HO_8; have BK120 := n0_; have HO124 := n1_; have HB := n2_; have HO127 := n3_; clear n0_ n1_ n2_ n3_; clear ho hb hg hat; have hcz33_0 : w31.cell? ⟨gb120, 0, none⟩ = some (.bool a2_0) := (blk_cell BK120.out 0).trans rfl; have hcz33_1 : w31.cell? ⟨gb120, 1, none⟩ = some (.bool true) := (blk_cell BK120.out 1).trans rfl; have hfz33_0 := blk_frozen BK120.out 0; have hfz33_1 := blk_frozen BK120.out 1) | ((with_reducible refine gate_builtin (b := .append) (xs := #[.tmp 40, .tmp 44]) rfl ?_); at_builtin; refine Kd.R_append (Kd.int .u8) (w0 := w) w.heap.size rfl (.tmp 40) (.tmp 44) 98 5 (.int .u8 0) 1 rfl Try.underlying98 info5 rfl (by decide) (by omega) v126 y125 ((Int.tmod a0 256) % 256) [.int .u8 ((Int.tmod a0 256) % 256)] (fun k_ => some k_ ≠ (.slice Ao32 y122.length co32 : Value).ownBlock) (fun _ => False) rfl rfl ?aP (fun _ hk => hk.elim) ?aF ?aO ?aB ?aS ?aL ?_; (case aP => exact rfl); (case aB => exact (by repeat (first | (with_reducible first | exact HB.out | apply below_alloc | apply pw_below_drewN | apply below_drew1 | refine below_set ?_ GE120.out) | exact HB.out))); (case aF => exact (fun k_ hk => Kd.fresh' (Kd.R_lt (by (with_reducible repeat (first | apply Kd.R_alloc | apply Kd.R_drewN | apply Kd.R_drew)); exact HO124.out)) k_ hk)); (case aO => exact (by (with_reducible repeat (first | apply Kd.R_alloc | apply Kd.R_drewN | apply Kd.R_drew)); exact HO127.out)); (case aS => exact (below_size (by repeat (first | (with_reducible first | exact HB.out | apply below_alloc | apply pw_below_drewN | apply below_drew1 | refine below_set ?_ GE120.out) | exact HB.out)))); (case aL => have := LMc27.out; omega); intro v135 w34 ho hb hg hat; rw [← Ny134.out] at ho; have n0_ := Aside0.mk (blk_grown (g := gb120) (o := .cells #[.bool a2_0, .bool true] 38 (0, 0)) (by (with_reducible repeat (first | refine blk_drewN ?_ _ | refine blk_drew ?_ | refine blk_alloc ?_ _)); exact BK120.out) hg (Kd.R_ne HO127.out BK120.out (by decide))); have n1_ := Aside0.mk (Kd.R_after (ok := (fun _ => True)) (by (with_reducible repeat (first | apply Kd.R_alloc | apply Kd.R_drewN | apply Kd.R_drew)); exact HO124.out) hg hat); have n2_ := Aside0.mk (hb); have n3_ := Aside0.mk (ho); clear BK120; clear HO124; clear HB; clear HO127; have BK120 := n0_; have HO124 := n1_; have HB := n2_; have HO136 := n3_; clear n0_ n1_ n2_ n3_; clear ho hb hg hat; have hcv35 := own_string (P := Try.prog) Try.underlying98 Try.underlying5 Try.underlying9 (Kd.own_of_R HO136.out)))
                      go_ret2
                      exact ⟨by first | rfl | (simp [errW_none, errW_some] <;> rfl) | (simp [*, errW_none, errW_some] <;> rfl), by repeat (first | (with_reducible first | exact HB.out | apply below_alloc | apply pw_below_drewN | apply below_drew1 | refine below_set ?_ GE120.out) | exact HB.out)⟩
                    · rw [if_neg c28] at H
                      exact absurd H (by simp)
                  · rw [if_neg c27] at H
                    exact absurd H (by simp)
              · rw [if_neg c14] at H
                have c14b0 : ((IntKind.u16.wrap (Int.tdiv a0 256)) == 0) = false := beq_eq_false_iff_ne.mpr c14
                have c14b1 : ((IntKind.u16.wrap (Int.tdiv a0 256)) != 0) = true := bne_iff_ne.mpr c14
                by_cases c36 : y125.length < 140737488355328
                · rw [if_pos c36] at H
                  have LMc36 := Aside0.mk c36
                  clear c36
                  obtain ⟨y137, hy137⟩ : ∃ y_ : List Int, y_ = (y125 ++ [(IntKind.u16.wrap (Int.tdiv a0 256)) % 256]) := ⟨_, rfl⟩
                  replace H : (if y137.length < 140737488355328 then ((some (y137 ++ [(Int.tmod a0 256) % 256] : List Int)).bind fun y140 => (if (strOfNums y140).size + a1.size ≤ 9223372036854775807 then (some ((strOfNums y140) ++ a1, 0)) else (none))) else (none)) = some (r1, r2) := by first | (rw [hy137]; with_reducible exact H) | (have H2_ := (Option.bind_some _ _).symm.trans H; rw [hy137]; with_reducible exact H2_) | (have H2_ := (Option.bind_some _ _).symm.trans H; with_reducible exact H2_) | with_reducible exact H | (rw [hy137]; exact H) | exact H
                  have Ny137 := Aside0.mk hy137
                  clear hy137
                  by_cases c37 : y137.length < 140737488355328
                  · rw [if_pos c37] at H
                    have LMc37 := Aside0.mk c37
                    clear c37
                    obtain ⟨y140, hy140⟩ : ∃ y_ : List Int, y_ = (y137 ++ [(Int.tmod a0 256) % 256]) := ⟨_, rfl⟩
                    replace H : (if (strOfNums y140).size + a1.size ≤ 9223372036854775807 then (some ((strOfNums y140) ++ a1, 0)) else (none)) = some (r1, r2) := by first | (rw [hy140]; with_reducible exact H) | (have H2_ := (Option.bind_some _ _).symm.trans H; rw [hy140]; with_reducible exact H2_) | (have H2_ := (Option.bind_some _ _).symm.trans H; with_reducible exact H2_) | with_reducible exact H | (rw [hy140]; exact H) | exact H
                    have Ny140 := Aside0.mk hy140
                    clear hy140
                    by_cases c38 : (strOfNums y140).size + a1.size ≤ 9223372036854775807
                    · rw [if_pos c38] at H
                      have c38b0 := eq_true c38
                      have c38b1 : decide ((strOfNums y140).size + a1.size ≤ 9223372036854775807) = true := decide_eq_true c38
                      try have c38b2 : (9223372036854775807 < (strOfNums y140).size + a1.size) = False := eq_false (Nat.not_lt.2 c38)
                      simp only [Option.some.injEq, Prod.mk.injEq] at H
                      obtain ⟨rfl, rfl⟩ := H
                      go_wp2_with (first | ((with_reducible refine gate_dst (N := 20) rfl ?_); refine Kd.R_lit (Kd.int .u8) _ 5 ?hg (N := 20) ?hd (xs := ([255, 3] : List Int)) (inner := [.int .u8 255, .int .u8 3]) (ok := fun _ => True) (okp := fun _ => True) ?hr ?hp (fun _ hk => hk) trivial (Below.refl _ _) (Nat.le_refl _) (by simp) ?_; (case hd => rfl); (case hg => rfl); (case hr => first | (go_simp; done) | (go_simp; rfl)); (case hp => exact (Reps.one (show Kd.M (Kd.int .u8) _ _ _ 255 [.int .u8 255] from rfl) (Reps.one (show Kd.M (Kd.int .u8) _ _ _ 3 [.int .u8 3] from rfl) (Reps.none _ _)))); intro v123 w39 ho40 hb hg_ hnew_; clear hg_ hnew_; (first | rw [← Ny122.out] at ho40 | (simp only [Int.reduceToNat] at ho40; rw [← Ny122.out] at ho40)); have n0_ := Aside0.mk (Kd.R_elder' (by (with_reducible repeat (first | apply Kd.R_alloc | apply Kd.R_drewN | apply Kd.R_drew)); exact HO_8.out) (Kd.R_base ho40) hb); have n1_ := Aside0.mk (Kd.R_lower (Kd.R_new' ho40 (Kd.R_lt (by (with_reducible repeat (first | apply Kd.R_alloc | apply Kd.R_drewN | apply Kd.R_drew)); exact HO_8.out))) (below_size (by repeat (first | (with_reducible first | exact HB.out | apply below_alloc | apply pw_below_drewN | apply below_drew1 | refine below_set ?_ GE120.out) | exact HB.out)))); have n2_ := Aside0.mk (blk_below (g := gb120) (o := .cells #[.bool a2_0, .bool true] 38 (0, 0)) (by (with_reducible repeat (first | refine blk_drewN ?_ _ | refine blk_drew ?_ | refine blk_alloc ?_ _)); exact BK120.out) hb); have n3_ := Aside0.mk (below_step (by repeat (first | (with_reducible first | exact HB.out | apply below_alloc | apply pw_below_drewN | apply below_drew1 | refine below_set ?_ GE120.out) | exact HB.out)) hb); clear HO_8; clear BK120; clear HB; have HO_8 := n0_; have HO124 := n1_; have BK120 := n2_; have HB := n3_; clear n0_ n1_ n2_ n3_; clear hb ho40; obtain ⟨Ao42, co42, eo42⟩ := Kd.R_slice HO124.out; subst eo42) | ((with_reducible refine gate_builtin (b := .append) (xs := #[.tmp 19, .tmp 20]) rfl ?_); at_builtin; refine Kd.R_append_rows (Kd.int .u8) (w0 := w) w.heap.size rfl (.tmp 19) (.tmp 20) 98 5 (.int .u8 0) 1 rfl Try.underlying98 info5 rfl (by decide) (by omega) (.slice none 0 0) ([] : List Int) y122 _ _ _ (fun k_ => some k_ ≠ (.slice Ao42 y122.length co42 : Value).ownBlock) (fun _ => False) rfl rfl ?aO ?aR (fun _ _ h => h) (fun _ h => h.elim) ?aF ?aB ?aS ?aL ?_; (case aR => repeat (first | exact (Kd.R_reads' HO124.out).2.2 | (with_reducible refine Kd.C_alloc ?_ _) | (with_reducible refine Kd.C_drewN ?_ _) | (with_reducible refine Kd.C_drew ?_))); (case aB => exact (by repeat (first | (with_reducible first | exact HB.out | apply below_alloc | apply pw_below_drewN | apply below_drew1 | refine below_set ?_ GE120.out) | exact HB.out))); (case aF => exact (fun k_ hk => Kd.fresh' (Kd.R_lt (by (with_reducible repeat (first | apply Kd.R_alloc | apply Kd.R_drewN | apply Kd.R_drew)); exact HO124.out)) k_ hk)); (case aO => exact (by (with_reducible repeat (first | apply Kd.R_alloc | apply Kd.R_drewN | apply Kd.R_drew)); exact Kd.R_mono HO_8.out (fun _ hk => hk.2))); (case aS => exact (below_size (by repeat (first | (with_reducible first | exact HB.out | apply below_alloc | apply pw_below_drewN | apply below_drew1 | refine below_set ?_ GE120.out) | exact HB.out)))); (case aL => have := LMc12.out; omega); intro v126 w41 ho hb hg hat; rw [← Ny125.out] at ho; have n0_ := Aside0.mk (blk_grown (g := gb120) (o := .cells #[.bool a2_0, .bool true] 38 (0, 0)) (by (with_reducible repeat (first | refine blk_drewN ?_ _ | refine blk_drew ?_ | refine blk_alloc ?_ _)); exact BK120.out) hg (Kd.R_ne HO_8.out BK120.out (by decide))); have n1_ := Aside0.mk (Kd.R_after (ok := (fun _ => True)) (by (with_reducible repeat (first | apply Kd.R_alloc | apply Kd.R_drewN | apply Kd.R_drew)); exact HO124.out) hg hat); have n2_ := Aside0.mk (hb); have n3_ := Aside0.mk (ho); clear BK120; clear HO124; clear HB; clear HO_8; have BK120 := n0_; have HO124 := n1_; have HB := n2_; have HO127 := n3_; clear n0_ n1_ n2_ n3_; clear ho hb hg hat; have hcz43_0 : w41.cell? ⟨gb120, 0, none⟩ = some (.bool a2_0) := (blk_cell BK120.out 0).trans rfl; have hcz43_1 : w41.cell? ⟨gb120, 1, none⟩ = some (.bool true) := (blk_cell BK120.out 1).trans rfl; have hfz43_0 := blk_frozen BK120.out 0; have hfz43_1 := blk_frozen BK120.out 1) | ((with_reducible refine gate_builtin (b := .append) (xs := #[.tmp 34, .tmp 38]) rfl ?_); at_builtin; refine Kd.R_append (Kd.int .u8) (w0 := w) w.heap.size rfl (.tmp 34) (.tmp 38) 98 5 (.int .u8 0) 1 rfl Try.underlying98 info5 rfl (by decide) (by omega) v126 y125 ((IntKind.u16.wrap (Int.tdiv a0 256)) % 256) [.int .u8 ((IntKind.u16.wrap (Int.tdiv a0 256)) % 256)] (fun k_ => some k_ ≠ (.slice Ao42 y122.length co42 : Value).ownBlock) (fun _ => False) rfl rfl ?aP (fun _ hk => hk.elim) ?aF ?aO ?aB ?aS ?aL ?_; (case aP => exact rfl); (case aB => exact (by repeat (first | (with_reducible first | exact HB.out | apply below_alloc | apply pw_below_drewN | apply below_drew1 | refine below_set ?_ GE120.out) | exact HB.out))); (case aF => exact (fun k_ hk => Kd.fresh' (Kd.R_lt (by (with_reducible repeat (first | apply Kd.R_alloc | apply Kd.R_drewN | apply Kd.R_drew)); exact HO124.out)) k_ hk)); (case aO => exact (by (with_reducible repeat (first | apply Kd.R_alloc | apply Kd.R_drewN | apply Kd.R_drew)); exact HO127.out)); (case aS => exact (below_size (by repeat (first | (with_reducible first | exact HB.out | apply below_alloc | apply pw_below_drewN | apply below_drew1 | refine below_set ?_ GE120.out) | exact HB.out)))); (case aL => have := LMc36.out; omega); intro v138 w44 ho hb hg hat; rw [← Ny137.out] at ho; have n0_ := Aside0.mk (blk_grown (g := gb120) (o := .cells #[.bool a2_0, .bool true] 38 (0, 0)) (by (with_reducible repeat (first | refine blk_drewN ?_ _ | refine blk_drew ?_ | refine blk_alloc ?_ _)); exact BK120.out) hg (Kd.R_ne HO127.out BK120.out (by decide))); have n1_ := Aside0.mk (Kd.R_after (ok := (fun _ => True)) (by (with_reducible repeat (first | apply Kd.R_alloc | apply Kd.R_drewN | apply Kd.R_drew)); exact HO124.out) hg hat); have n2_ := Aside0.mk (hb); have n3_ := Aside0.mk (ho); clear BK120; clear HO124; clear HB; clear HO127; have BK120 := n0_; have HO124 := n1_; have HB := n2_; have HO139 := n3_; clear n0_ n1_ n2_ n3_; clear ho hb hg hat) | ((with_reducible refine gate_builtin (b := .append) (xs := #[.tmp 40, .tmp 44]) rfl ?_); at_builtin; refine Kd.R_append (Kd.int .u8) (w0 := w) w.heap.size rfl (.tmp 40) (.tmp 44) 98 5 (.int .u8 0) 1 rfl Try.underlying98 info5 rfl (by decide) (by omega) v138 y137 ((Int.tmod a0 256) % 256) [.int .u8 ((Int.tmod a0 256) % 256)] (fun k_ => some k_ ≠ (.slice Ao42 y122.length co42 : Value).ownBlock) (fun _ => False) rfl rfl ?aP (fun _ hk => hk.elim) ?aF ?aO ?aB ?aS ?aL ?_; (case aP => exact rfl); (case aB => exact (by repeat (first | (with_reducible first | exact HB.out | apply below_alloc | apply pw_below_drewN | apply below_drew1 | refine below_set ?_ GE120.out) | exact HB.out))); (case aF => exact (fun k_ hk => Kd.fresh' (Kd.R_lt (by (with_reducible repeat (first | apply Kd.R_alloc | apply Kd.R_drewN | apply Kd.R_drew)); exact HO124.out)) k_ hk)); (case aO => exact (by (with_reducible repeat (first | apply Kd.R_alloc | apply Kd.R_drewN | apply Kd.R_drew)); exact HO139.out)); (case aS => exact (below_size (by repeat (first | (with_reducible first | exact HB.out | apply below_alloc | apply pw_below_drewN | apply below_drew1 | refine below_set ?_ GE120.out) | exact HB.out)))); (case aL => have := LMc37.out; omega); intro v141 w45 ho hb hg hat; rw [← Ny140.out] at ho; have n0_ := Aside0.mk (blk_grown (g := gb120) (o := .cells #[.bool a2_0, .bool true] 38 (0, 0)) (by (with_reducible repeat (first | refine blk_drewN ?_ _ | refine blk_drew ?_ | refine blk_alloc ?_ _)); exact BK120.out) hg (Kd.R_ne HO139.out BK120.out (by decide))); have n1_ := Aside0.mk (Kd.R_after (ok := (fun _ => True)) (by (with_reducible repeat (first | apply Kd.R_alloc | apply Kd.R_drewN | apply Kd.R_drew)); exact HO124.out) hg hat); have n2_ := Aside0.mk (hb); have n3_ := Aside0.mk (ho); clear BK120; clear HO124; clear HB; clear HO139; have BK120 := n0_; have HO124 := n1_; have HB := n2_; have HO142 := n3_; clear n0_ n1_ n2_ n3_; clear ho hb hg hat; have hcv46 := own_string (P := Try.prog) Try.underlying98 Try.underlying5 Try.underlying9 (Kd.own_of_R HO142.out)))
                      go_ret2
                      exact ⟨by first | rfl | (simp [errW_none, errW_some] <;> rfl) | (simp [*, errW_none, errW_some] <;> rfl), by repeat (first | (with_reducible first | exact HB.out | apply below_alloc | apply pw_below_drewN | apply below_drew1 | refine below_set ?_ GE120.out) | exact HB.out)⟩
                    · rw [if_neg c38] at H
                      exact absurd H (by simp)
                  · rw [if_neg c37] at H
                    exact absurd H (by simp)
                · rw [if_neg c36] at H
                  exact absurd H (by simp)
            · replace c13 := Bool.eq_false_iff.mpr c13
              subst c13
              have H1 : (if y125.length < 140737488355328 then ((some (y125 ++ [(IntKind.u16.wrap (Int.tdiv a0 256)) % 256] : List Int)).bind fun y143 => (if y143.length < 140737488355328 then ((some (y143 ++ [(Int.tmod a0 256) % 256] : List Int)).bind fun y146 => (if (strOfNums y146).size + a1.size ≤ 9223372036854775807 then (some ((strOfNums y146) ++ a1, 0)) else (none))) else (none))) else (none)) = some (r1, r2) := by rw [if_neg (show ¬ (false = true) by decide)] at H; exact H
              clear H
              have H := H1
              clear H1
              by_cases c47 : y125.length < 140737488355328
              · rw [if_pos c47] at H
                have LMc47 := Aside0.mk c47
                clear c47
                obtain ⟨y143, hy143⟩ : ∃ y_ : List Int, y_ = (y125 ++ [(IntKind.u16.wrap (Int.tdiv a0 256)) % 256]) := ⟨_, rfl⟩
                replace H : (if y143.length < 140737488355328 then ((some (y143 ++ [(Int.tmod a0 256) % 256] : List Int)).bind fun y146 => (if (strOfNums y146).size + a1.size ≤ 9223372036854775807 then (some ((strOfNums y146) ++ a1, 0)) else (none))) else (none)) = some (r1, r2) := by first | (rw [hy143]; with_reducible exact H) | (have H2_ := (Option.bind_some _ _).symm.trans H; rw [hy143]; with_reducible exact H2_) | (have H2_ := (Option.bind_some _ _).symm.trans H; with_reducible exact H2_) | with_reducible exact H | (rw [hy143]; exact H) | exact H
                have Ny143 := Aside0.mk hy143
                clear hy143
                by_cases c48 : y143.length < 140737488355328
                · rw [if_pos c48] at H
                  have LMc48 := Aside0.mk c48
                  clear c48
                  obtain ⟨y146, hy146⟩ : ∃ y_ : List Int, y_ = (y143 ++ [(Int.tmod a0 256) % 256]) := ⟨_, rfl⟩
                  replace H : (if (strOfNums y146).size + a1.size ≤ 9223372036854775807 then (some ((strOfNums y146) ++ a1, 0)) else (none)) = some (r1, r2) := by first | (rw [hy146]; with_reducible exact H) | (have H2_ := (Option.bind_some _ _).symm.trans H; rw [hy146]; with_reducible exact H2_) | (have H2_ := (Option.bind_some _ _).symm.trans H; with_reducible exact H2_) | with_reducible exact H | (rw [hy146]; exact H) | exact H
                  have Ny146 := Aside0.mk hy146
                  clear hy146
                  by_cases c49 : (strOfNums y146).size + a1.size ≤ 9223372036854775807
                  · rw [if_pos c49] at H
                    have c49b0 := eq_true c49
                    have c49b1 : decide ((strOfNums y146).size + a1.size ≤ 9223372036854775807) = true := decide_eq_true c49
                    try have c49b2 : (9223372036854775807 < (strOfNums y146).size + a1.size) = False := eq_false (Nat.not_lt.2 c49)
                    simp only [Option.some.injEq, Prod.mk.injEq] at H
                    obtain ⟨rfl, rfl⟩ := H
                    go_wp2_with (first | ((with_reducible refine gate_dst (N := 20) rfl ?_); refine Kd.R_lit (Kd.int .u8) _ 5 ?hg (N := 20) ?hd (xs := ([255, 3] : List Int)) (inner := [.int .u8 255, .int .u8 3]) (ok := fun _ => True) (okp := fun _ => True) ?hr ?hp (fun _ hk => hk) trivial (Below.refl _ _) (Nat.le_refl _) (by simp) ?_; (case hd => rfl); (case hg => rfl); (case hr => first | (go_simp; done) | (go_simp; rfl)); (case hp => exact (Reps.one (show Kd.M (Kd.int .u8) _ _ _ 255 [.int .u8 255] from rfl) (Reps.one (show Kd.M (Kd.int .u8) _ _ _ 3 [.int .u8 3] from rfl) (Reps.none _ _)))); intro v123 w50 ho51 hb hg_ hnew_; clear hg_ hnew_; (first | rw [← Ny122.out] at ho51 | (simp only [Int.reduceToNat] at ho51; rw [← Ny122.out] at ho51)); have n0_ := Aside0.mk (Kd.R_elder' (by (with_reducible repeat (first | apply Kd.R_alloc | apply Kd.R_drewN | apply Kd.R_drew)); exact HO_8.out) (Kd.R_base ho51) hb); have n1_ := Aside0.mk (Kd.R_lower (Kd.R_new' ho51 (Kd.R_lt (by (with_reducible repeat (first | apply Kd.R_alloc | apply Kd.R_drewN | apply Kd.R_drew)); exact HO_8.out))) (below_size (by repeat (first | (with_reducible first | exact HB.out | apply below_alloc | apply pw_below_drewN | apply below_drew1 | refine below_set ?_ GE120.out) | exact HB.out)))); have n2_ := Aside0.mk (blk_below (g := gb120) (o := .cells #[.bool a2_0, .bool false] 38 (0, 0)) (by (with_reducible repeat (first | refine blk_drewN ?_ _ | refine blk_drew ?_ | refine blk_alloc ?_ _)); exact BK120.out) hb); have n3_ := Aside0.mk (below_step (by repeat (first | (with_reducible first | exact HB.out | apply below_alloc | apply pw_below_drewN | apply below_drew1 | refine below_set ?_ GE120.out) | exact HB.out)) hb); clear HO_8; clear BK120; clear HB; have HO_8 := n0_; have HO124 := n1_; have BK120 := n2_; have HB := n3_; clear n0_ n1_ n2_ n3_; clear hb ho51; obtain ⟨Ao53, co53, eo53⟩ := Kd.R_slice HO124.out; subst eo53) | ((with_reducible refine gate_builtin (b := .append) (xs := #[.tmp 19, .tmp 20]) rfl ?_); at_builtin; refine Kd.R_append_rows (Kd.int .u8) (w0 := w) w.heap.size rfl (.tmp 19) (.tmp 20) 98 5 (.int .u8 0) 1 rfl Try.underlying98 info5 rfl (by decide) (by omega) (.slice none 0 0) ([] : List Int) y122 _ _ _ (fun k_ => some k_ ≠ (.slice Ao53 y122.length co53 : Value).ownBlock) (fun _ => False) rfl rfl ?aO ?aR (fun _ _ h => h) (fun _ h => h.elim) ?aF ?aB ?aS ?aL ?_; (case aR => repeat (first | exact (Kd.R_reads' HO124.out).2.2 | (with_reducible refine Kd.C_alloc ?_ _) | (with_reducible refine Kd.C_drewN ?_ _) | (with_reducible refine Kd.C_drew ?_))); (case aB => exact (by repeat (first | (with_reducible first | exact HB.out | apply below_alloc | apply pw_below_drewN | apply below_drew1 | refine below_set ?_ GE120.out) | exact HB.out))); (case aF => exact (fun k_ hk => Kd.fresh' (Kd.R_lt (by (with_reducible repeat (first | apply Kd.R_alloc | apply Kd.R_drewN | apply Kd.R_drew)); exact HO124.out)) k_ hk)); (case aO => exact (by (with_reducible repeat (first | apply Kd.R_alloc | apply Kd.R_drewN | apply Kd.R_drew)); exact Kd.R_mono HO_8.out (fun _ hk => hk.2))); (case aS => exact (below_size (by repeat (first | (with_reducible first | exact HB.out | apply below_alloc | apply pw_below_drewN | apply below_drew1 | refine below_set ?_ GE120.out) | exact HB.out)))); (case aL => have := LMc12.out; omega); intro v126 w52 ho hb hg hat; rw [← Ny125.out] at ho; have n0_ := Aside0.mk (blk_grown (g := gb120) (o := .cells #[.bool a2_0, .bool false] 38 (0, 0)) (by (with_reducible repeat (first | refine blk_drewN ?_ _ | refine blk_drew ?_ | refine blk_alloc ?_ _)); exact BK120.out) hg (Kd.R_ne HO_8.out BK120.out (by decide))); have n1_ := Aside0.mk (Kd.R_after (ok := (fun _ => True)) (by (with_reducible repeat (first | apply Kd.R_alloc | apply Kd.R_drewN | apply Kd.R_drew)); exact HO124.out) hg hat); have n2_ := Aside0.mk (hb); have n3_ := Aside0.mk (ho); clear BK120; clear HO124; clear HB; clear HO_8; have BK120 := n0_; have HO124 := n1_; have HB := n2_; have HO127 := n3_; clear n0_ n1_ n2_ n3_; clear ho hb hg hat; have hcz54_0 : w52.cell? ⟨gb120, 0, none⟩ = some (.bool a2_0) := (blk_cell BK120.out 0).trans rfl; have hcz54_1 : w52.cell? ⟨gb120, 1, none⟩ = some (.bool false) := (blk_cell BK120.out 1).trans rfl; have hfz54_0 := blk_frozen BK120.out 0; have hfz54_1 := blk_frozen BK120.out 1) | ((with_reducible refine gate_builtin (b := .append) (xs := #[.tmp 34, .tmp 38]) rfl ?_); at_builtin; refine Kd.R_append (Kd.int .u8) (w0 := w) w.heap.size rfl (.tmp 34) (.tmp 38) 98 5 (.int .u8 0) 1 rfl Try.underlying98 info5 rfl (by decide) (by omega) v126 y125 ((IntKind.u16.wrap (Int.tdiv a0 256)) % 256) [.int .u8 ((IntKind.u16.wrap (Int.tdiv a0 256)) % 256)] (fun k_ => some k_ ≠ (.slice Ao53 y122.length co53 : Value).ownBlock) (fun _ => False) rfl rfl ?aP (fun _ hk => hk.elim) ?aF ?aO ?aB ?aS ?aL ?_; (case aP => exact rfl); (case aB => exact (by repeat (first | (with_reducible first | exact HB.out | apply below_alloc | apply pw_below_drewN | apply below_drew1 | refine below_set ?_ GE120.out) | exact HB.out))); (case aF => exact (fun k_ hk => Kd.fresh' (Kd.R_lt (by (with_reducible repeat (first | apply Kd.R_alloc | apply Kd.R_drewN | apply Kd.R_drew)); exact HO124.out)) k_ hk)); (case aO => exact (by (with_reducible repeat (first | apply Kd.R_alloc | apply Kd.R_drewN | apply Kd.R_drew)); exact HO127.out)); (case aS => exact (below_size (by repeat (first | (with_reducible first | exact HB.out | apply below_alloc | apply pw_below_drewN | apply below_drew1 | refine below_set ?_ GE120.out) | exact HB.out)))); (case aL => have := LMc47.out; omega); intro v144 w55 ho hb hg hat; rw [← Ny143.out] at ho; have n0_ := Aside0.mk (blk_grown (g := gb120) (o := .cells #[.bool a2_0, .bool false] 38 (0, 0)) (by (with_reducible repeat (first | refine blk_drewN ?_ _ | refine blk_drew ?_ | refine blk_alloc ?_ _)); exact BK120.out) hg (Kd.R_ne HO127.out BK120.out (by decide))); have n1_ := Aside0.mk (Kd.R_after (ok := (fun _ => True)) (by (with_reducible repeat (first | apply Kd.R_alloc | apply Kd.R_drewN | apply Kd.R_drew)); exact HO124.out) hg hat); have n2_ := Aside0.mk (hb); have n3_ := Aside0.mk (ho); clear BK120; clear HO124; clear HB; clear HO127; have BK120 := n0_; have HO124 := n1_; have HB := n2_; have HO145 := n3_; clear n0_ n1_ n2_ n3_; clear ho hb hg hat) | ((with_reducible refine gate_builtin (b := .append) (xs := #[.tmp 40, .tmp 44]) rfl ?_); at_builtin; refine Kd.R_append (Kd.int .u8) (w0 := w) w.heap.size rfl (.tmp 40) (.tmp 44) 98 5 (.int .u8 0) 1 rfl Try.underlying98 info5 rfl (by decide) (by omega) v144 y143 ((Int.tmod a0 256) % 256) [.int .u8 ((Int.tmod a0 256) % 256)] (fun k_ => some k_ ≠ (.slice Ao53 y122.length co53 : Value).ownBlock) (fun _ => False) rfl rfl ?aP (fun _ hk => hk.elim) ?aF ?aO ?aB ?aS ?aL ?_; (case aP => exact rfl); (case aB => exact (by repeat (first | (with_reducible first | exact HB.out | apply below_alloc | apply pw_below_drewN | apply below_drew1 | refine below_set ?_ GE120.out) | exact HB.out))); (case aF => exact (fun k_ hk => Kd.fresh' (Kd.R_lt (by (with_reducible repeat (first | apply Kd.R_alloc | apply Kd.R_drewN | apply Kd.R_drew)); exact HO124.out)) k_ hk)); (case aO => exact (by (with_reducible repeat (first | apply Kd.R_alloc | apply Kd.R_drewN | apply Kd.R_drew)); exact HO145.out)); (case aS => exact (below_size (by repeat (first | (with_reducible first | exact HB.out | apply below_alloc | apply pw_below_drewN | apply below_drew1 | refine below_set ?_ GE120.out) | exact HB.out)))); (case aL => have := LMc48.out; omega); intro v147 w56 ho hb hg hat; rw [← Ny146.out] at ho; have n0_ := Aside0.mk (blk_grown (g := gb120) (o := .cells #[.bool a2_0, .bool false] 38 (0, 0)) (by (with_reducible repeat (first | refine blk_drewN ?_ _ | refine blk_drew ?_ | refine blk_alloc ?_ _)); exact BK120.out) hg (Kd.R_ne HO145.out BK120.out (by decide))); have n1_ := Aside0.mk (Kd.R_after (ok := (fun _ => True)) (by (with_reducible repeat (first | apply Kd.R_alloc | apply Kd.R_drewN | apply Kd.R_drew)); exact HO124.out) hg hat); have n2_ := Aside0.mk (hb); have n3_ := Aside0.mk (ho); clear BK120; clear HO124; clear HB; clear HO145; have BK120 := n0_; have HO124 := n1_; have HB := n2_; have HO148 := n3_; clear n0_ n1_ n2_ n3_; clear ho hb hg hat; have hcv57 := own_string (P := Try.prog) Try.underlying98 Try.underlying5 Try.underlying9 (Kd.own_of_R HO148.out)))
                    go_ret2
                    exact ⟨by first | rfl | (simp [errW_none, errW_some] <;> rfl) | (simp [*, errW_none, errW_some] <;> rfl), by repeat (first | (with_reducible first | exact HB.out | apply below_alloc | apply pw_below_drewN | apply below_drew1 | refine below_set ?_ GE120.out) | exact HB.out)⟩
                  · rw [if_neg c49] at H
                    exact absurd H (by simp)
                · rw [if_neg c48] at H
                  exact absurd H (by simp)
              · rw [if_neg c47] at H
                exact absurd H (by simp)
          · rw [if_neg c12] at H
            exact absurd H (by simp)
        · replace c11 := Bool.eq_false_iff.mpr c11
          subst c11
          have H1 : (if a2_1 = true then (if (IntKind.u16.wrap (Int.tdiv a0 256)) = 0 then (if a0 = 49185 then (if ([] : List Int).length < 140737488355328 then ((some (([] : List Int) ++ [(IntKind.u16.wrap (Int.tdiv a0 256)) % 256] : List Int)).bind fun y149 => (if y149.length < 140737488355328 then ((some (y149 ++ [(Int.tmod a0 256) % 256] : List Int)).bind fun y152 => (if (strOfNums y152).size + a1.size ≤ 9223372036854775807 then (some ((strOfNums y152) ++ a1, 0)) else (none))) else (none))) else (none)) else (if ([] : List Int).length < 140737488355328 then ((some (([] : List Int) ++ [(Int.tmod a0 256) % 256] : List Int)).bind fun y155 => (if (strOfNums y155).size + a1.size ≤ 9223372036854775807 then (some ((strOfNums y155) ++ a1, 0)) else (none))) else (none))) else (if ([] : List Int).length < 140737488355328 then ((some (([] : List Int) ++ [(IntKind.u16.wrap (Int.tdiv a0 256)) % 256] : List Int)).bind fun y158 => (if y158.length < 140737488355328 then ((some (y158 ++ [(Int.tmod a0 256) % 256] : List Int)).bind fun y161 => (if (strOfNums y161).size + a1.size ≤ 9223372036854775807 then (some ((strOfNums y161) ++ a1, 0)) else (none))) else (none))) else (none))) else (if ([] : List Int).length < 140737488355328 then ((some (([] : List Int) ++ [(IntKind.u16.wrap (Int.tdiv a0 256)) % 256] : List Int)).bind fun y164 => (if y164.length < 140737488355328 then ((some (y164 ++ [(Int.tmod a0 256) % 256] : List Int)).bind fun y167 => (if (strOfNums y167).size + a1.size ≤ 9223372036854775807 then (some ((strOfNums y167) ++ a1, 0)) else (none))) else (none))) else (none))) = some (r1, r2) := by rw [if_neg (show ¬ (false = true) by decide)] at H; exact H
          clear H
          have H := H1
          clear H1
          by_cases c58 : a2_1 = true
          · subst c58
            have H1 : (if (IntKind.u16.wrap (Int.tdiv a0 256)) = 0 then (if a0 = 49185 then (if ([] : List Int).length < 140737488355328 then ((some (([] : List Int) ++ [(IntKind.u16.wrap (Int.tdiv a0 256)) % 256] : List Int)).bind fun y149 => (if y149.length < 140737488355328 then ((some (y149 ++ [(Int.tmod a0 256) % 256] : List Int)).bind fun y152 => (if (strOfNums y152).size + a1.size ≤ 9223372036854775807 then (some ((strOfNums y152) ++ a1, 0)) else (none))) else (none))) else (none)) else (if ([] : List Int).length < 140737488355328 then ((some (([] : List Int) ++ [(Int.tmod a0 256) % 256] : List Int)).bind fun y155 => (if (strOfNums y155).size + a1.size ≤ 9223372036854775807 then (some ((strOfNums y155) ++ a1, 0)) else (none))) else (none))) else (if ([] : List Int).length < 140737488355328 then ((some (([] : List Int) ++ [(IntKind.u16.wrap (Int.tdiv a0 256)) % 256] : List Int)).bind fun y158 => (if y158.length < 140737488355328 then ((some (y158 ++ [(Int.tmod a0 256) % 256] : List Int)).bind fun y161 => (if (strOfNums y161).size + a1.size ≤ 9223372036854775807 then (some ((strOfNums y161) ++ a1, 0)) else (none))) else (none))) else (none))) = some (r1, r2) := by rw [if_pos rfl] at H; exact H
            clear H
            have H := H1
            clear H1
            by_cases c59 : (IntKind.u16.wrap (Int.tdiv a0 256)) = 0
            · rw [if_pos c59] at H
              have c59b0 : ((IntKind.u16.wrap (Int.tdiv a0 256)) == 0) = true := beq_iff_eq.mpr c59
              have c59b1 : ((IntKind.u16.wrap (Int.tdiv a0 256)) != 0) = false := bne_eq_false_iff_eq.mpr c59
              clear c59
              by_cases c60 : a0 = 49185
              · rw [if_pos c60] at H
                have c60b0 : (a0 == 49185) = true := beq_iff_eq.mpr c60
                have c60b1 : (a0 != 49185) = false := bne_eq_false_iff_eq.mpr c60
                clear c60
                by_cases c61 : ([] : List Int).length < 140737488355328
                · rw [if_pos c61] at H
                  have LMc61 := Aside0.mk c61
                  clear c61
                  obtain ⟨y149, hy149⟩ : ∃ y_ : List Int, y_ = (([] : List Int) ++ [(IntKind.u16.wrap (Int.tdiv a0 256)) % 256]) := ⟨_, rfl⟩
                  replace H : (if y149.length < 140737488355328 then ((some (y149 ++ [(Int.tmod a0 256) % 256] : List Int)).bind fun y152 => (if (strOfNums y152).size + a1.size ≤ 9223372036854775807 then (some ((strOfNums y152) ++ a1, 0)) else (none))) else (none)) = some (r1, r2) := by first | (rw [hy149]; with_reducible exact H) | (have H2_ := (Option.bind_some _ _).symm.trans H; rw [hy149]; with_reducible exact H2_) | (have H2_ := (Option.bind_some _ _).symm.trans H; with_reducible exact H2_) | with_reducible exact H | (rw [hy149]; exact H) | exact H
                  have Ny149 := Aside0.mk hy149
                  clear hy149
                  by_cases c62 : y149.length < 140737488355328
                  · rw [if_pos c62] at H
                    have LMc62 := Aside0.mk c62
                    clear c62
                    obtain ⟨y152, hy152⟩ : ∃ y_ : List Int, y_ = (y149 ++ [(Int.tmod a0 256) % 256]) := ⟨_, rfl⟩
                    replace H : (if (strOfNums y152).size + a1.size ≤ 9223372036854775807 then (some ((strOfNums y152) ++ a1, 0)) else (none)) = some (r1, r2) := by first | (rw [hy152]; with_reducible exact H) | (have H2_ := (Option.bind_some _ _).symm.trans H; rw [hy152]; with_reducible exact H2_) | (have H2_ := (Option.bind_some _ _).symm.trans H; with_reducible exact H2_) | with_reducible exact H | (rw [hy152]; exact H) | exact H
                    have Ny152 := Aside0.mk hy152
                    clear hy152
                    by_cases c63 : (strOfNums y152).size + a1.size ≤ 9223372036854775807
                    · rw [if_pos c63] at H
                      have c63b0 := eq_true c63
                      have c63b1 : decide ((strOfNums y152).size + a1.size ≤ 9223372036854775807) = true := decide_eq_true c63
                      try have c63b2 : (9223372036854775807 < (strOfNums y152).size + a1.size) = False := eq_false (Nat.not_lt.2 c63)
                      simp only [Option.some.injEq, Prod.mk.injEq] at H
                      obtain ⟨rfl, rfl⟩ := H
                      have hcz64_0 : wc.cell? ⟨gb120, 0, none⟩ = some (.bool a2_0) := (blk_cell BK120.out 0).trans rfl
                      have hcz64_1 : wc.cell? ⟨gb120, 1, none⟩ = some (.bool true) := (blk_cell BK120.out 1).trans rfl
                      have hfz64_0 := blk_frozen BK120.out 0
                      have hfz64_1 := blk_frozen BK120.out 1
                      go_wp2_with (first | ((with_reducible refine gate_builtin (b := .append) (xs := #[.tmp 34, .tmp 38]) rfl ?_); at_builtin; refine Kd.R_append (Kd.int .u8) (w0 := w) w.heap.size rfl (.tmp 34) (.tmp 38) 98 5 (.int .u8 0) 1 rfl Try.underlying98 info5 rfl (by decide) (by omega) (.slice none 0 0) ([] : List Int) ((IntKind.u16.wrap (Int.tdiv a0 256)) % 256) [.int .u8 ((IntKind.u16.wrap (Int.tdiv a0 256)) % 256)] (fun _ => True) (fun _ => False) rfl rfl ?aP (fun _ hk => hk.elim) ?aF ?aO ?aB ?aS ?aL ?_; (case aP => exact rfl); (case aB => exact (by repeat (first | (with_reducible first | exact HB.out | apply below_alloc | apply pw_below_drewN | apply below_drew1 | refine below_set ?_ GE120.out) | exact HB.out))); (case aF => exact (fun _ _ => trivial)); (case aO => exact (by (with_reducible repeat (first | apply Kd.R_alloc | apply Kd.R_drewN | apply Kd.R_drew)); exact HO_8.out)); (case aS => exact (below_size (by repeat (first | (with_reducible first | exact HB.out | apply below_alloc | apply pw_below_drewN | apply below_drew1 | refine below_set ?_ GE120.out) | exact HB.out)))); (case aL => have := LMc61.out; omega); intro v150 w65 ho hb hg hat; rw [← Ny149.out] at ho; have n0_ := Aside0.mk (blk_grown (g := gb120) (o := .cells #[.bool a2_0, .bool true] 38 (0, 0)) (by (with_reducible repeat (first | refine blk_drewN ?_ _ | refine blk_drew ?_ | refine blk_alloc ?_ _)); exact BK120.out) hg (Kd.R_ne HO_8.out BK120.out (by decide))); have n1_ := Aside0.mk (hb); have n2_ := Aside0.mk (ho); clear BK120; clear HB; clear HO_8; have BK120 := n0_; have HB := n1_; have HO151 := n2_; clear n0_ n1_ n2_; clear ho hb hg hat) | ((with_reducible refine gate_builtin (b := .append) (xs := #[.tmp 40, .tmp 44]) rfl ?_); at_builtin; refine Kd.R_append (Kd.int .u8) (w0 := w) w.heap.size rfl (.tmp 40) (.tmp 44) 98 5 (.int .u8 0) 1 rfl Try.underlying98 info5 rfl (by decide) (by omega) v150 y149 ((Int.tmod a0 256) % 256) [.int .u8 ((Int.tmod a0 256) % 256)] (fun _ => True) (fun _ => False) rfl rfl ?aP (fun _ hk => hk.elim) ?aF ?aO ?aB ?aS ?aL ?_; (case aP => exact rfl); (case aB => exact (by repeat (first | (with_reducible first | exact HB.out | apply below_alloc | apply pw_below_drewN | apply below_drew1 | refine below_set ?_ GE120.out) | exact HB.out))); (case aF => exact (fun _ _ => trivial)); (case aO => exact (by (with_reducible repeat (first | apply Kd.R_alloc | apply Kd.R_drewN | apply Kd.R_drew)); exact HO151.out)); (case aS => exact (below_size (by repeat (first | (with_reducible first | exact HB.out | apply below_alloc | apply pw_below_drewN | apply below_drew1 | refine below_set ?_ GE120.out) | exact HB.out)))); (case aL => have := LMc62.out; omega); intro v153 w66 ho hb hg hat; rw [← Ny152.out] at ho; have n0_ := Aside0.mk (blk_grown (g := gb120) (o := .cells #[.bool a2_0, .bool true] 38 (0, 0)) (by (with_reducible repeat (first | refine blk_drewN ?_ _ | refine blk_drew ?_ | refine blk_alloc ?_ _)); exact BK120.out) hg (Kd.R_ne HO151.out BK120.out (by decide))); have n1_ := Aside0.mk (hb); have n2_ := Aside0.mk (ho); clear BK120; clear HB; clear HO151; have BK120 := n0_; have HB := n1_; have HO154 := n2_; clear n0_ n1_ n2_; clear ho hb hg hat; have hcv67 := own_string (P := Try.prog) Try.underlying98 Try.underlying5 Try.underlying9 (Kd.own_of_R HO154.out)))
                      go_ret2
                      exact ⟨by first | rfl | (simp [errW_none, errW_some] <;> rfl) | (simp [*, errW_none, errW_some] <;> rfl), by repeat (first | (with_reducible first | exact HB.out | apply below_alloc | apply pw_below_drewN | apply below_drew1 | refine below_set ?_ GE120.out) | exact HB.out)⟩
                    · rw [if_neg c63] at H
                      exact absurd H (by simp)
                  · rw [if_neg c62] at H
                    exact absurd H (by simp)
                · rw [if_neg c61] at H
                  exact absurd H (by simp)
              · rw [if_neg c60] at H
                have c60b0 : (a0 == 49185) = false := beq_eq_false_iff_ne.mpr c60
                have c60b1 : (a0 != 49185) = true := bne_iff_ne.mpr c60
                by_cases c68 : ([] : List Int).length < 140737488355328
                · rw [if_pos c68] at H
                  have LMc68 := Aside0.mk c68
                  clear c68
                  obtain ⟨y155, hy155⟩ : ∃ y_ : List Int, y_ = (([] : List Int) ++ [(Int.tmod a0 256) % 256]) := ⟨_, rfl⟩
                  replace H : (if (strOfNums y155).size + a1.size ≤ 9223372036854775807 then (some ((strOfNums y155) ++ a1, 0)) else (none)) = some (r1, r2) := by first | (rw [hy155]; with_reducible exact H) | (have H2_ := (Option.bind_some _ _).symm.trans H; rw [hy155]; with_reducible exact H2_) | (have H2_ := (Option.bind_some _ _).symm.trans H; with_reducible exact H2_) | with_reducible exact H | (rw [hy155]; exact H) | exact H
                  have Ny155 := Aside0.mk hy155
                  clear hy155
                  by_cases c69 : (strOfNums y155).size + a1.size ≤ 9223372036854775807
                  · rw [if_pos c69] at H
                    have c69b0 := eq_true c69
                    have c69b1 : decide ((strOfNums y155).size + a1.size ≤ 9223372036854775807) = true := decide_eq_true c69
                    try have c69b2 : (9223372036854775807 < (strOfNums y155).size + a1.size) = False := eq_false (Nat.not_lt.2 c69)
                    simp only [Option.some.injEq, Prod.mk.injEq] at H
                    obtain ⟨rfl, rfl⟩ := H
                    have hcz70_0 : wc.cell? ⟨gb120, 0, none⟩ = some (.bool a2_0) := (blk_cell BK120.out 0).trans rfl
                    have hcz70_1 : wc.cell? ⟨gb120, 1, none⟩ = some (.bool true) := (blk_cell BK120.out 1).trans rfl
                    have hfz70_0 := blk_frozen BK120.out 0
                    have hfz70_1 := blk_frozen BK120.out 1
                    go_wp2_with (first | ((with_reducible refine gate_builtin (b := .append) (xs := #[.tmp 40, .tmp 44]) rfl ?_); at_builtin; refine Kd.R_append (Kd.int .u8) (w0 := w) w.heap.size rfl (.tmp 40) (.tmp 44) 98 5 (.int .u8 0) 1 rfl Try.underlying98 info5 rfl (by decide) (by omega) (.slice none 0 0) ([] : List Int) ((Int.tmod a0 256) % 256) [.int .u8 ((Int.tmod a0 256) % 256)] (fun _ => True) (fun _ => False) rfl rfl ?aP (fun _ hk => hk.elim) ?aF ?aO ?aB ?aS ?aL ?_; (case aP => exact rfl); (case aB => exact (by repeat (first | (with_reducible first | exact HB.out | apply below_alloc | apply pw_below_drewN | apply below_drew1 | refine below_set ?_ GE120.out) | exact HB.out))); (case aF => exact (fun _ _ => trivial)); (case aO => exact (by (with_reducible repeat (first | apply Kd.R_alloc | apply Kd.R_drewN | apply Kd.R_drew)); exact HO_8.out)); (case aS => exact (below_size (by repeat (first | (with_reducible first | exact HB.out | apply below_alloc | apply pw_below_drewN | apply below_drew1 | refine below_set ?_ GE120.out) | exact HB.out)))); (case aL => have := LMc68.out; omega); intro v156 w71 ho hb hg hat; rw [← Ny155.out] at ho; have n0_ := Aside0.mk (blk_grown (g := gb120) (o := .cells #[.bool a2_0, .bool true] 38 (0, 0)) (by (with_reducible repeat (first | refine blk_drewN ?_ _ | refine blk_drew ?_ | refine blk_alloc ?_ _)); exact BK120.out) hg (Kd.R_ne HO_8.out BK120.out (by decide))); have n1_ := Aside0.mk (hb); have n2_ := Aside0.mk (ho); clear BK120; clear HB; clear HO_8; have BK120 := n0_; have HB := n1_; have HO157 := n2_; clear n0_ n1_ n2_; clear ho hb hg hat; have hcv72 := own_string (P := Try.prog) Try.underlying98 Try.underlying5 Try.underlying9 (Kd.own_of_R HO157.out)))
                    go_ret2
                    exact ⟨by first | rfl | (simp [errW_none, errW_some] <;> rfl) | (simp [*, errW_none, errW_some] <;> rfl), by repeat (first | (with_reducible first | exact HB.out | apply below_alloc | apply pw_below_drewN | apply below_drew1 | refine below_set ?_ GE120.out) | exact HB.out)⟩
                  · rw [if_neg c69] at H
                    exact absurd H (by simp)
                · rw [if_neg c68] at H
                  exact absurd H (by simp)
            · rw [if_neg c59] at H
              have c59b0 : ((IntKind.u16.wrap (Int.tdiv a0 256)) == 0) = false := beq_eq_false_iff_ne.mpr c59
              have c59b1 : ((IntKind.u16.wrap (Int.tdiv a0 256)) != 0) = true := bne_iff_ne.mpr c59
              by_cases c73 : ([] : List Int).length < 140737488355328
              · rw [if_pos c73] at H
                have LMc73 := Aside0.mk c73
                clear c73
                obtain ⟨y158, hy158⟩ : ∃ y_ : List Int, y_ = (([] : List Int) ++ [(IntKind.u16.wrap (Int.tdiv a0 256)) % 256]) := ⟨_, rfl⟩
                replace H : (if y158.length < 140737488355328 then ((some (y158 ++ [(Int.tmod a0 256) % 256] : List Int)).bind fun y161 => (if (strOfNums y161).size + a1.size ≤ 9223372036854775807 then (some ((strOfNums y161) ++ a1, 0)) else (none))) else (none)) = some (r1, r2) := by first | (rw [hy158]; with_reducible exact H) | (have H2_ := (Option.bind_some _ _).symm.trans H; rw [hy158]; with_reducible exact H2_) | (have H2_ := (Option.bind_some _ _).symm.trans H; with_reducible exact H2_) | with_reducible exact H | (rw [hy158]; exact H) | exact H
                have Ny158 := Aside0.mk hy158
                clear hy158
                by_cases c74 : y158.length < 140737488355328
                · rw [if_pos c74] at H
                  have LMc74 := Aside0.mk c74
                  clear c74
                  obtain ⟨y161, hy161⟩ : ∃ y_ : List Int, y_ = (y158 ++ [(Int.tmod a0 256) % 256]) := ⟨_, rfl⟩
                  replace H : (if (strOfNums y161).size + a1.size ≤ 9223372036854775807 then (some ((strOfNums y161) ++ a1, 0)) else (none)) = some (r1, r2) := by first | (rw [hy161]; with_reducible exact H) | (have H2_ := (Option.bind_some _ _).symm.trans H; rw [hy161]; with_reducible exact H2_) | (have H2_ := (Option.bind_some _ _).symm.trans H; with_reducible exact H2_) | with_reducible exact H | (rw [hy161]; exact H) | exact H
                  have Ny161 := Aside0.mk hy161
                  clear hy161
                  by_cases c75 : (strOfNums y161).size + a1.size ≤ 9223372036854775807
                  · rw [if_pos c75] at H
                    have c75b0 := eq_true c75
                    have c75b1 : decide ((strOfNums y161).size + a1.size ≤ 9223372036854775807) = true := decide_eq_true c75
                    try have c75b2 : (9223372036854775807 < (strOfNums y161).size + a1.size) = False := eq_false (Nat.not_lt.2 c75)
                    simp only [Option.some.injEq, Prod.mk.injEq] at H
                    obtain ⟨rfl, rfl⟩ := H
                    have hcz76_0 : wc.cell? ⟨gb120, 0, none⟩ = some (.bool a2_0) := (blk_cell BK120.out 0).trans rfl
                    have hcz76_1 : wc.cell? ⟨gb120, 1, none⟩ = some (.bool true) := (blk_cell BK120.out 1).trans rfl
                    have hfz76_0 := blk_frozen BK120.out 0
                    have hfz76_1 := blk_frozen BK120.out 1
                    go_wp2_with (first | ((with_reducible refine gate_builtin (b := .append) (xs := #[.tmp 34, .tmp 38]) rfl ?_); at_builtin; refine Kd.R_append (Kd.int .u8) (w0 := w) w.heap.size rfl (.tmp 34) (.tmp 38) 98 5 (.int .u8 0) 1 rfl Try.underlying98 info5 rfl (by decide) (by omega) (.slice none 0 0) ([] : List Int) ((IntKind.u16.wrap (Int.tdiv a0 256)) % 256) [.int .u8 ((IntKind.u16.wrap (Int.tdiv a0 256)) % 256)] (fun _ => True) (fun _ => False) rfl rfl ?aP (fun _ hk => hk.elim) ?aF ?aO ?aB ?aS ?aL ?_; (case aP => exact rfl); (case aB => exact (by repeat (first | (with_reducible first | exact HB.out | apply below_alloc | apply pw_below_drewN | apply below_drew1 | refine below_set ?_ GE120.out) | exact HB.out))); (case aF => exact (fun _ _ => trivial)); (case aO => exact (by (with_reducible repeat (first | apply Kd.R_alloc | apply Kd.R_drewN | apply Kd.R_drew)); exact HO_8.out)); (case aS => exact (below_size (by repeat (first | (with_reducible first | exact HB.out | apply below_alloc | apply pw_below_drewN | apply below_drew1 | refine below_set ?_ GE120.out) | exact HB.out)))); (case aL => have := LMc73.out; omega); intro v159 w77 ho hb hg hat; rw [← Ny158.out] at ho; have n0_ := Aside0.mk (blk_grown (g := gb120) (o := .cells #[.bool a2_0, .bool true] 38 (0, 0)) (by (with_reducible repeat (first | refine blk_drewN ?_ _ | refine blk_drew ?_ | refine blk_alloc ?_ _)); exact BK120.out) hg (Kd.R_ne HO_8.out BK120.out (by decide))); have n1_ := Aside0.mk (hb); have n2_ := Aside0.mk (ho); clear BK120; clear HB; clear HO_8; have BK120 := n0_; have HB := n1_; have HO160 := n2_; clear n0_ n1_ n2_; clear ho hb hg hat) | ((with_reducible refine gate_builtin (b := .append) (xs := #[.tmp 40, .tmp 44]) rfl ?_); at_builtin; refine Kd.R_append (Kd.int .u8) (w0 := w) w.heap.size rfl (.tmp 40) (.tmp 44) 98 5 (.int .u8 0) 1 rfl Try.underlying98 info5 rfl (by decide) (by omega) v159 y158 ((Int.tmod a0 256) % 256) [.int .u8 ((Int.tmod a0 256) % 256)] (fun _ => True) (fun _ => False) rfl rfl ?aP (fun _ hk => hk.elim) ?aF ?aO ?aB ?aS ?aL ?_; (case aP => exact rfl); (case aB => exact (by repeat (first | (with_reducible first | exact HB.out | apply below_alloc | apply pw_below_drewN | apply below_drew1 | refine below_set ?_ GE120.out) | exact HB.out))); (case aF => exact (fun _ _ => trivial)); (case aO => exact (by (with_reducible repeat (first | apply Kd.R_alloc | apply Kd.R_drewN | apply Kd.R_drew)); exact HO160.out)); (case aS => exact (below_size (by repeat (first | (with_reducible first | exact HB.out | apply below_alloc | apply pw_below_drewN | apply below_drew1 | refine below_set ?_ GE120.out) | exact HB.out)))); (case aL => have := LMc74.out; omega); intro v162 w78 ho hb hg hat; rw [← Ny161.out] at ho; have n0_ := Aside0.mk (blk_grown (g := gb120) (o := .cells #[.bool a2_0, .bool true] 38 (0, 0)) (by (with_reducible repeat (first | refine blk_drewN ?_ _ | refine blk_drew ?_ | refine blk_alloc ?_ _)); exact BK120.out) hg (Kd.R_ne HO160.out BK120.out (by decide))); have n1_ := Aside0.mk (hb); have n2_ := Aside0.mk (ho); clear BK120; clear HB; clear HO160; have BK120 := n0_; have HB := n1_; have HO163 := n2_; clear n0_ n1_ n2_; clear ho hb hg hat; have hcv79 := own_string (P := Try.prog) Try.underlying98 Try.underlying5 Try.underlying9 (Kd.own_of_R HO163.out)))
                    go_ret2
                    exact ⟨by first | rfl | (simp [errW_none, errW_some] <;> rfl) | (simp [*, errW_none, errW_some] <;> rfl), by repeat (first | (with_reducible first | exact HB.out | apply below_alloc | apply pw_below_drewN | apply below_drew1 | refine below_set ?_ GE120.out) | exact HB.out)⟩
                  · rw [if_neg c75] at H
                    exact absurd H (by simp)
                · rw [if_neg c74] at H
                  exact absurd H (by simp)
              · rw [if_neg c73] at H
                exact absurd H (by simp)
          · replace c58 := Bool.eq_false_iff.mpr c58
            subst c58
            have H1 : (if ([] : List Int).length < 140737488355328 then ((some (([] : List Int) ++ [(IntKind.u16.wrap (Int.tdiv a0 256)) % 256] : List Int)).bind fun y164 => (if y164.length < 140737488355328 then ((some (y164 ++ [(Int.tmod a0 256) % 256] : List Int)).bind fun y167 => (if (strOfNums y167).size + a1.size ≤ 9223372036854775807 then (some ((strOfNums y167) ++ a1, 0)) else (none))) else (none))) else (none)) = some (r1, r2) := by rw [if_neg (show ¬ (false = true) by decide)] at H; exact H
            clear H
            have H := H1
            clear H1
            by_cases c80 : ([] : List Int).length < 140737488355328
            · rw [if_pos c80] at H
              have LMc80 := Aside0.mk c80
              clear c80
              obtain ⟨y164, hy164⟩ : ∃ y_ : List Int, y_ = (([] : List Int) ++ [(IntKind.u16.wrap (Int.tdiv a0 256)) % 256]) := ⟨_, rfl⟩
              replace H : (if y164.length < 140737488355328 then ((some (y164 ++ [(Int.tmod a0 256) % 256] : List Int)).bind fun y167 => (if (strOfNums y167).size + a1.size ≤ 9223372036854775807 then (some ((strOfNums y167) ++ a1, 0)) else (none))) else (none)) = some (r1, r2) := by first | (rw [hy164]; with_reducible exact H) | (have H2_ := (Option.bind_some _ _).symm.trans H; rw [hy164]; with_reducible exact H2_) | (have H2_ := (Option.bind_some _ _).symm.trans H; with_reducible exact H2_) | with_reducible exact H | (rw [hy164]; exact H) | exact H
              have Ny164 := Aside0.mk hy164
              clear hy164
              by_cases c81 : y164.length < 140737488355328
              · rw [if_pos c81] at H
                have LMc81 := Aside0.mk c81
                clear c81
                obtain ⟨y167, hy167⟩ : ∃ y_ : List Int, y_ = (y164 ++ [(Int.tmod a0 256) % 256]) := ⟨_, rfl⟩
                replace H : (if (strOfNums y167).size + a1.size ≤ 9223372036854775807 then (some ((strOfNums y167) ++ a1, 0)) else (none)) = some (r1, r2) := by first | (rw [hy167]; with_reducible exact H) | (have H2_ := (Option.bind_some _ _).symm.trans H; rw [hy167]; with_reducible exact H2_) | (have H2_ := (Option.bind_some _ _).symm.trans H; with_reducible exact H2_) | with_reducible exact H | (rw [hy167]; exact H) | exact H
                have Ny167 := Aside0.mk hy167
                clear hy167
                by_cases c82 : (strOfNums y167).size + a1.size ≤ 9223372036854775807
                · rw [if_pos c82] at H
                  have c82b0 := eq_true c82
                  have c82b1 : decide ((strOfNums y167).size + a1.size ≤ 9223372036854775807) = true := decide_eq_true c82
                  try have c82b2 : (9223372036854775807 < (strOfNums y167).size + a1.size) = False := eq_false (Nat.not_lt.2 c82)
                  simp only [Option.some.injEq, Prod.mk.injEq] at H
                  obtain ⟨rfl, rfl⟩ := H
                  have hcz83_0 : wc.cell? ⟨gb120, 0, none⟩ = some (.bool a2_0) := (blk_cell BK120.out 0).trans rfl
                  have hcz83_1 : wc.cell? ⟨gb120, 1, none⟩ = some (.bool false) := (blk_cell BK120.out 1).trans rfl
                  have hfz83_0 := blk_frozen BK120.out 0
                  have hfz83_1 := blk_frozen BK120.out 1
                  go_wp2_with (first | ((with_reducible refine gate_builtin (b := .append) (xs := #[.tmp 34, .tmp 38]) rfl ?_); at_builtin; refine Kd.R_append (Kd.int .u8) (w0 := w) w.heap.size rfl (.tmp 34) (.tmp 38) 98 5 (.int .u8 0) 1 rfl Try.underlying98 info5 rfl (by decide) (by omega) (.slice none 0 0) ([] : List Int) ((IntKind.u16.wrap (Int.tdiv a0 256)) % 256) [.int .u8 ((IntKind.u16.wrap (Int.tdiv a0 256)) % 256)] (fun _ => True) (fun _ => False) rfl rfl ?aP (fun _ hk => hk.elim) ?aF ?aO ?aB ?aS ?aL ?_; (case aP => exact rfl); (case aB => exact (by repeat (first | (with_reducible first | exact HB.out | apply below_alloc | apply pw_below_drewN | apply below_drew1 | refine below_set ?_ GE120.out) | exact HB.out))); (case aF => exact (fun _ _ => trivial)); (case aO => exact (by (with_reducible repeat (first | apply Kd.R_alloc | apply Kd.R_drewN | apply Kd.R_drew)); exact HO_8.out)); (case aS => exact (below_size (by repeat (first | (with_reducible first | exact HB.out | apply below_alloc | apply pw_below_drewN | apply below_drew1 | refine below_set ?_ GE120.out) | exact HB.out)))); (case aL => have := LMc80.out; omega); intro v165 w84 ho hb hg hat; rw [← Ny164.out] at ho; have n0_ := Aside0.mk (blk_grown (g := gb120) (o := .cells #[.bool a2_0, .bool false] 38 (0, 0)) (by (with_reducible repeat (first | refine blk_drewN ?_ _ | refine blk_drew ?_ | refine blk_alloc ?_ _)); exact BK120.out) hg (Kd.R_ne HO_8.out BK120.out (by decide))); have n1_ := Aside0.mk (hb); have n2_ := Aside0.mk (ho); clear BK120; clear HB; clear HO_8; have BK120 := n0_; have HB := n1_; have HO166 := n2_; clear n0_ n1_ n2_; clear ho hb hg hat) | ((with_reducible refine gate_builtin (b := .append) (xs := #[.tmp 40, .tmp 44]) rfl ?_); at_builtin; refine Kd.R_append (Kd.int .u8) (w0 := w) w.heap.size rfl (.tmp 40) (.tmp 44) 98 5 (.int .u8 0) 1 rfl Try.underlying98 info5 rfl (by decide) (by omega) v165 y164 ((Int.tmod a0 256) % 256) [.int .u8 ((Int.tmod a0 256) % 256)] (fun _ => True) (fun _ => False) rfl rfl ?aP (fun _ hk => hk.elim) ?aF ?aO ?aB ?aS ?aL ?_; (case aP => exact rfl); (case aB => exact (by repeat (first | (with_reducible first | exact HB.out | apply below_alloc | apply pw_below_drewN | apply below_drew1 | refine below_set ?_ GE120.out) | exact HB.out))); (case aF => exact (fun _ _ => trivial)); (case aO => exact (by (with_reducible repeat (first | apply Kd.R_alloc | apply Kd.R_drewN | apply Kd.R_drew)); exact HO166.out)); (case aS => exact (below_size (by repeat (first | (with_reducible first | exact HB.out | apply below_alloc | apply pw_below_drewN | apply below_drew1 | refine below_set ?_ GE120.out) | exact HB.out)))); (case aL => have := LMc81.out; omega); intro v168 w85 ho hb hg hat; rw [← Ny167.out] at ho; have n0_ := Aside0.mk (blk_grown (g := gb120) (o := .cells #[.bool a2_0, .bool false] 38 (0, 0)) (by (with_reducible repeat (first | refine blk_drewN ?_ _ | refine blk_drew ?_ | refine blk_alloc ?_ _)); exact BK120.out) hg (Kd.R_ne HO166.out BK120.out (by decide))); have n1_ := Aside0.mk (hb); have n2_ := Aside0.mk (ho); clear BK120; clear HB; clear HO166; have BK120 := n0_; have HB := n1_; have HO169 := n2_; clear n0_ n1_ n2_; clear ho hb hg hat; have hcv86 := own_string (P := Try.prog) Try.underlying98 Try.underlying5 Try.underlying9 (Kd.own_of_R HO169.out)))
                  go_ret2
                  exact ⟨by first | rfl | (simp [errW_none, errW_some] <;> rfl) | (simp [*, errW_none, errW_some] <;> rfl), by repeat (first | (with_reducible first | exact HB.out | apply below_alloc | apply pw_below_drewN | apply below_drew1 | refine below_set ?_ GE120.out) | exact HB.out)⟩
                · rw [if_neg c82] at H
                  exact absurd H (by simp)
              · rw [if_neg c81] at H
                exact absurd H (by simp)
            · rw [if_neg c80] at H
              exact absurd H (by simp)
  · replace c5 := Bool.eq_false_iff.mpr c5
    subst c5
    have H1 : (some ((⟨#[]⟩ : ByteArray), 2)) = some (r1, r2) := by rw [if_neg (show ¬ (false = true) by decide)] at H; exact H
    clear H
    have H := H1
    clear H1
    simp only [Option.some.injEq, Prod.mk.injEq] at H
    obtain ⟨rfl, rfl⟩ := H
    go_enter Try.func28, Try.ntmps28
    go_wp2_with (first | ((with_reducible refine gate_dst (N := 5) rfl ?_); refine box_event ?hg (N := 5) ?hd (cs := #[.bool a2_0, .bool a2_1]) (t := 38) ?hr ?_; (case hd => rfl); (case hg => rfl); (case hr => first | (go_simp; done) | (go_simp; rfl)); intro gb120 hg w87 hbox hb; have n0_ := Aside0.mk (below_step (by repeat (first | (with_reducible first | exact HB.out | apply below_alloc | apply pw_below_drewN | apply below_drew1) | exact HB.out)) hb); have n1_ := Aside0.mk (hbox); have n2_ := Aside0.mk ((by rw [hg]; exact (below_size (by repeat (first | (with_reducible first | exact HB.out | apply below_alloc | apply pw_below_drewN | apply below_drew1) | exact HB.out))) : w.heap.size ≤ gb120)); have n3_ := Aside0.mk ((by rw [hg]; exact (below_size (by repeat (first | (with_reducible first | exact HB.out | apply below_alloc | apply pw_below_drewN | apply below_drew1) | exact HB.out))) : w.heap.size ≤ gb120)); clear HB; have HB := n0_; have BK120 := n1_; have GW120 := n2_; have GE120 := n3_; clear n0_ n1_ n2_ n3_; clear hb hbox hg) | ((with_reducible refine gate_callee (f := 32) rfl ?_); refine goesL_ (some 10) rfl rfl Try.func32 (by kernel_rfl) rfl #[.int .u16 a0] rfl (by (try simp only [List.map_toArray, List.map_cons, List.map_nil]); first | done | rfl | (simp only [List.length_drop, List.length_take]; rfl)) ?_; (with_reducible refine (halyardref06_May.calls a0 false _ A4.out).mono ?_); rintro e w' ⟨rfl, ⟨nd, rfl⟩⟩; refine ⟨_, rfl, ?_⟩))
    go_ret2
    exact ⟨by first | rfl | (simp [errW_none, errW_some] <;> rfl) | (simp [*, errW_none, errW_some] <;> rfl), by repeat (first | (with_reducible first | exact HB.out | apply below_alloc | apply pw_below_drewN | apply below_drew1 | refine below_set ?_ GE120.out) | exact HB.out)⟩

end Go.Proofs.Ytdlpoemjgeehgaa.PG06
