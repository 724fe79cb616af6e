-- WRITTEN by wip/tools/hprint.py: the kit's print.py run over this translation, with functions proved by hand laid in. Lean checks it.
import Derived.Test.YtdlpoemjgeehgaaPG18x0
import Derived.Test.YtdlpoemjgeehgaaPG18x1
import Derived.Test.YtdlpoemjgeehgaaPG18x6
import Derived.Test.YtdlpoemjgeehgaaPG18x10
import Derived.Test.YtdlpoemjgeehgaaPG18x11
import Derived.Test.YtdlpoemjgeehgaaPG18x12
import Derived.Test.YtdlpoemjgeehgaaPG18x13
import Derived.Test.YtdlpoemjgeehgaaPG18x21
namespace Go.Proofs.Ytdlpoemjgeehgaa.PG18
open Go.RowKit Go.Proofs.YtdlpoemjgeehgaaW.PrintWords Go.Proofs.YtdlpoemjgeehgaaW.PrintLast Go.Proofs.YtdlpoemjgeehgaaW.PrintMore Go.Proofs.YtdlpoemjgeehgaaHW
attribute [local go_sem] max2_int min2_int max_two min_two max_three min_three max_four min_four   -- for this text's walks alone
set_option linter.unusedVariables false
set_option linter.unusedSimpArgs false

attribute [local go_sem high] eqA25
/-! ### halyardlaw18_PapBack: function 5 -/
mutual
def halyardlaw18_PapBack.j0 : Nat → Int → ByteArray → Bool → Int → Int → ByteArray → Option (Bool)
  | 0, _, _, _, _, _, _ => none
  | k + 1, x0, x2, x3, x230000, x230001, x230002 => (pap_Answer.f x0 x3 x2).bind fun bt240 => (if bt240.2.2.2 = 0 then ((pap_Answered.f k bt240.1 bt240.2.1 bt240.2.2.1).bind fun bt245 => (if bt245.2.2 = 0 then (if (bt245.1 != x3) = true then (some false) else (if bt245.2.1.toList = x2.toList then (if bt240.2.1 = x0 then (halyardlaw18_PapBack.j1 k x230000 x230001 x230002) else (some false)) else (some false))) else (some false))) else (halyardlaw18_PapBack.j1 k x230000 x230001 x230002))
def halyardlaw18_PapBack.j1 : Nat → Int → Int → ByteArray → Option (Bool)
  | 0, _, _, _ => none
  | k + 1, x230000, x230001, x230002 => (pap_Asked.f x230000 x230001 x230002).bind fun bt248 => (if bt248.2.2 = 0 then ((pap_Request.f x230001 bt248.1 bt248.2.1).bind fun bt251 => (if bt251.2.2.2 = 0 then (if (!(bt251.1 == x230000) || (!(bt251.2.1 == x230001) || (!(bt251.2.2.1.toList == x230002.toList)))) = true then (some false) else (halyardlaw18_PapBack.j2 k bt248.1 bt248.2.1 bt248.2.2 x230000 x230001 x230002)) else (some false))) else (halyardlaw18_PapBack.j2 k bt248.1 bt248.2.1 bt248.2.2 x230000 x230001 x230002))
def halyardlaw18_PapBack.j2 : Nat → ByteArray → ByteArray → Int → Int → Int → ByteArray → Option (Bool)
  | 0, _, _, _, _, _, _ => none
  | k + 1, x21, x22, x23, x230000, x230001, x230002 => (pap_Answered.f k x230000 x230001 x230002).bind fun bt256 => (if bt256.2.2 = 0 then ((pap_Answer.f x230001 bt256.1 bt256.2.1).bind fun bt259 => (if bt259.2.2.2 = 0 then (if (!(bt259.1 == x230000) || (!(bt259.2.1 == x230001) || (!(bt259.2.2.1.toList == x230002.toList)))) = true then (some false) else (if x23 = 0 then ((halyardlaw18_alive.f).bind fun t264 => (some t264)) else (if x21.toList = ([] : List UInt8) then (if x22.toList = ([] : List UInt8) then ((halyardlaw18_alive.f).bind fun t265 => (some t265)) else (some false)) else (some false)))) else (some false))) else (if x23 = 0 then (if bt256.1 = true then (some false) else (if bt256.2.1.toList = ([] : List UInt8) then ((halyardlaw18_alive.f).bind fun t266 => (some t266)) else (some false))) else (if x21.toList = ([] : List UInt8) then (if x22.toList = ([] : List UInt8) then (if bt256.1 = true then (some false) else (if bt256.2.1.toList = ([] : List UInt8) then ((halyardlaw18_alive.f).bind fun t267 => (some t267)) else (some false))) else (some false)) else (some false))))
end
def halyardlaw18_PapBack.f (k : Nat) (a0 : Int) (a1 : ByteArray) (a2 : ByteArray) (a3 : Bool) (a4_0 : Int) (a4_1 : Int) (a4_2 : ByteArray) : Option (Bool) := if (wrap64 ((wrap64 ((a1.size : Int) + (a2.size : Int))) + (a4_2.size : Int))) > 4096 then ((halyardlaw18_alive.f).bind fun t230 => (some t230)) else ((pap_Request.f a0 a1 a2).bind fun bt231 => (if bt231.2.2.2 = 0 then ((pap_Asked.f bt231.1 bt231.2.1 bt231.2.2.1).bind fun bt236 => (if bt236.2.2 = 0 then (if bt236.1.toList = a1.toList then (if bt236.2.1.toList = a2.toList then (if bt231.2.1 = a0 then ((pap_Check.f bt231.1 bt231.2.1 bt231.2.2.1 a1 a2).bind fun t239 => (if t239 = true then (halyardlaw18_PapBack.j0 k a0 a2 a3 a4_0 a4_1 a4_2) else (some false))) else (some false)) else (some false)) else (some false)) else (some false))) else (halyardlaw18_PapBack.j0 k a0 a2 a3 a4_0 a4_1 a4_2)))
theorem halyardlaw18_PapBack.mono_l : ∀ k, (∀ y0 y1 y2 y3 y4 y5, LeO (halyardlaw18_PapBack.j0 k y0 y1 y2 y3 y4 y5) (halyardlaw18_PapBack.j0 (k + 1) y0 y1 y2 y3 y4 y5)) ∧ (∀ y0 y1 y2, LeO (halyardlaw18_PapBack.j1 k y0 y1 y2) (halyardlaw18_PapBack.j1 (k + 1) y0 y1 y2)) ∧ (∀ y0 y1 y2 y3 y4 y5, LeO (halyardlaw18_PapBack.j2 k y0 y1 y2 y3 y4 y5) (halyardlaw18_PapBack.j2 (k + 1) y0 y1 y2 y3 y4 y5))
  | 0 => ⟨fun _ _ _ _ _ _ r h => by simp [halyardlaw18_PapBack.j0] at h, fun _ _ _ r h => by simp [halyardlaw18_PapBack.j1] at h, fun _ _ _ _ _ _ r h => by simp [halyardlaw18_PapBack.j2] at h⟩
  | k + 1 => by
    obtain ⟨ih0, ih1, ih2⟩ := halyardlaw18_PapBack.mono_l k
    refine ⟨?_, ?_, ?_⟩
    · intro y0 y1 y2 y3 y4 y5
      unfold halyardlaw18_PapBack.j0
      repeat' first
      | (with_reducible exact ih0 _ _ _ _ _ _)
      | (with_reducible exact ih1 _ _ _)
      | (with_reducible exact ih2 _ _ _ _ _ _)
      | (with_reducible exact pap_Answered.mono _ _ _ _)
      | (with_reducible exact LeO.refl _)
      | (with_reducible exact LeO.none _)
      | (with_reducible refine LeO.ite ?_ ?_)
      | (with_reducible refine LeO.bind ?_ (fun _ => ?_))
      | exact ih0 _ _ _ _ _ _
      | exact ih1 _ _ _
      | exact ih2 _ _ _ _ _ _
      | exact pap_Answered.mono _ _ _ _
      | exact LeO.none _
      | refine LeO.ite ?_ ?_
      | refine LeO.bind ?_ (fun _ => ?_)
    · intro y0 y1 y2
      unfold halyardlaw18_PapBack.j1
      repeat' first
      | (with_reducible exact ih0 _ _ _ _ _ _)
      | (with_reducible exact ih1 _ _ _)
      | (with_reducible exact ih2 _ _ _ _ _ _)
      | (with_reducible exact pap_Answered.mono _ _ _ _)
      | (with_reducible exact LeO.refl _)
      | (with_reducible exact LeO.none _)
      | (with_reducible refine LeO.ite ?_ ?_)
      | (with_reducible refine LeO.bind ?_ (fun _ => ?_))
      | exact ih0 _ _ _ _ _ _
      | exact ih1 _ _ _
      | exact ih2 _ _ _ _ _ _
      | exact pap_Answered.mono _ _ _ _
      | exact LeO.none _
      | refine LeO.ite ?_ ?_
      | refine LeO.bind ?_ (fun _ => ?_)
    · intro y0 y1 y2 y3 y4 y5
      unfold halyardlaw18_PapBack.j2
      repeat' first
      | (with_reducible exact ih0 _ _ _ _ _ _)
      | (with_reducible exact ih1 _ _ _)
      | (with_reducible exact ih2 _ _ _ _ _ _)
      | (with_reducible exact pap_Answered.mono _ _ _ _)
      | (with_reducible exact LeO.refl _)
      | (with_reducible exact LeO.none _)
      | (with_reducible refine LeO.ite ?_ ?_)
      | (with_reducible refine LeO.bind ?_ (fun _ => ?_))
      | exact ih0 _ _ _ _ _ _
      | exact ih1 _ _ _
      | exact ih2 _ _ _ _ _ _
      | exact pap_Answered.mono _ _ _ _
      | exact LeO.none _
      | refine LeO.ite ?_ ?_
      | refine LeO.bind ?_ (fun _ => ?_)
theorem halyardlaw18_PapBack.mono : ∀ a0 a1 a2 a3 a4 a5 a6 k, LeO (halyardlaw18_PapBack.f k a0 a1 a2 a3 a4 a5 a6) (halyardlaw18_PapBack.f (k + 1) a0 a1 a2 a3 a4 a5 a6) := by
  intro a0 a1 a2 a3 a4 a5 a6 k
  obtain ⟨ih0, ih1, ih2⟩ := halyardlaw18_PapBack.mono_l k
  unfold halyardlaw18_PapBack.f
  repeat' first
      | (with_reducible exact ih0 _ _ _ _ _ _)
      | (with_reducible exact ih1 _ _ _)
      | (with_reducible exact ih2 _ _ _ _ _ _)
      | (with_reducible exact pap_Answered.mono _ _ _ _)
      | (with_reducible exact LeO.refl _)
      | (with_reducible exact LeO.none _)
      | (with_reducible refine LeO.ite ?_ ?_)
      | (with_reducible refine LeO.bind ?_ (fun _ => ?_))
      | exact ih0 _ _ _ _ _ _
      | exact ih1 _ _ _
      | exact ih2 _ _ _ _ _ _
      | exact pap_Answered.mono _ _ _ _
      | exact LeO.none _
      | refine LeO.ite ?_ ?_
      | refine LeO.bind ?_ (fun _ => ?_)
set_option maxHeartbeats 8000000 in
set_option maxRecDepth 100000 in
theorem halyardlaw18_PapBack.calls (k : Nat) (a0 : Int) (a1 : ByteArray) (a2 : ByteArray) (a3 : Bool) (a4_0 : Int) (a4_1 : Int) (a4_2 : ByteArray) (r : Bool) (w : World) (h : halyardlaw18_PapBack.f k a0 a1 a2 a3 a4_0 a4_1 a4_2 = some r) :
    Calls Try.prog 5 #[.int .u8 a0, .string a1, .string a2, .bool a3, .agg #[.int .u8 a4_0, .int .u8 a4_1, .string a4_2]] w fun e w' => e = .returned (.bool r) ∧ Below w.heap.size w w' := by
  have hu25 := Try.underlying25
  have HB := Aside0.mk (Below.refl w.heap.size w)
  have H : (if (wrap64 ((wrap64 ((a1.size : Int) + (a2.size : Int))) + (a4_2.size : Int))) > 4096 then ((halyardlaw18_alive.f).bind fun t230 => (some t230)) else ((pap_Request.f a0 a1 a2).bind fun bt231 => (if bt231.2.2.2 = 0 then ((pap_Asked.f bt231.1 bt231.2.1 bt231.2.2.1).bind fun bt236 => (if bt236.2.2 = 0 then (if bt236.1.toList = a1.toList then (if bt236.2.1.toList = a2.toList then (if bt231.2.1 = a0 then ((pap_Check.f bt231.1 bt231.2.1 bt231.2.2.1 a1 a2).bind fun t239 => (if t239 = true then (halyardlaw18_PapBack.j0 k a0 a2 a3 a4_0 a4_1 a4_2) else (some false))) else (some false)) else (some false)) else (some false)) else (some false))) else (halyardlaw18_PapBack.j0 k a0 a2 a3 a4_0 a4_1 a4_2)))) = some r := h
  clear h
  by_cases c6 : (wrap64 ((wrap64 ((a1.size : Int) + (a2.size : Int))) + (a4_2.size : Int))) > 4096
  · rw [if_pos c6] at H
    have c6b0 : decide (4096 < (wrap64 ((wrap64 ((a1.size : Int) + (a2.size : Int))) + (a4_2.size : Int)))) = true := decide_eq_true c6
    clear c6
    replace H := Option.bind_eq_some_iff.mp H
    obtain ⟨t230, A70, H⟩ := H
    replace H : (some t230) = some r := H
    have A7 := Aside0.mk A70
    clear A70
    obtain rfl := Option.some.inj H
    go_enter Try.func5, Try.ntmps5
    go_wp2_with (first | ((with_reducible refine gate_dst (N := 9) rfl ?_); refine box_event ?hg (N := 9) ?hd (cs := #[.int .u8 a4_0, .int .u8 a4_1, .string a4_2]) (t := 25) ?hr ?_; (case hd => rfl); (case hg => rfl); (case hr => first | (go_simp; done) | (go_simp; rfl)); intro gb229 hg w8 hbox hb; have n0_ := Aside0.mk (below_step (by repeat (first | (with_reducible first | exact HB.out | apply below_alloc | apply pw_below_drewN | apply below_drew1) | exact HB.out)) hb); have n1_ := Aside0.mk (hbox); have n2_ := Aside0.mk ((by rw [hg]; exact (below_size (by repeat (first | (with_reducible first | exact HB.out | apply below_alloc | apply pw_below_drewN | apply below_drew1) | exact HB.out))) : w.heap.size ≤ gb229)); have n3_ := Aside0.mk ((by rw [hg]; exact (below_size (by repeat (first | (with_reducible first | exact HB.out | apply below_alloc | apply pw_below_drewN | apply below_drew1) | exact HB.out))) : w.heap.size ≤ gb229)); clear HB; have HB := n0_; have BK229 := n1_; have GW229 := n2_; have GE229 := n3_; clear n0_ n1_ n2_ n3_; clear hb hbox hg; have hcz9_0 : w8.cell? ⟨gb229, 0, none⟩ = some (.int .u8 a4_0) := (blk_cell BK229.out 0).trans rfl; have hcz9_1 : w8.cell? ⟨gb229, 1, none⟩ = some (.int .u8 a4_1) := (blk_cell BK229.out 1).trans rfl; have hcz9_2 : w8.cell? ⟨gb229, 2, none⟩ = some (.string a4_2) := (blk_cell BK229.out 2).trans rfl; have hfz9_0 := blk_frozen BK229.out 0; have hfz9_1 := blk_frozen BK229.out 1; have hfz9_2 := blk_frozen BK229.out 2) | ((with_reducible refine gate_callee (f := 16) rfl ?_); refine goesL_ (some 41) rfl rfl Try.func16 (by kernel_rfl) rfl #[] rfl (by (try simp only [List.map_toArray, List.map_cons, List.map_nil]); first | done | rfl | (simp only [List.length_drop, List.length_take]; rfl)) ?_; (with_reducible refine (halyardlaw18_alive.calls  t230 _ A7.out).mono ?_); rintro e w10 ⟨rfl, hb⟩; refine ⟨_, rfl, ?_⟩; have n0_ := Aside0.mk (blk_below (g := gb229) (o := .cells #[.int .u8 a4_0, .int .u8 a4_1, .string a4_2] 25 (0, 0)) (by (with_reducible repeat (first | refine blk_drewN ?_ _ | refine blk_drew ?_ | refine blk_alloc ?_ _)); exact BK229.out) hb); have n1_ := Aside0.mk (below_step (by repeat (first | (with_reducible first | exact HB.out | apply below_alloc | apply pw_below_drewN | apply below_drew1 | refine below_set ?_ GE229.out) | exact HB.out)) hb); clear BK229; clear HB; have BK229 := n0_; have HB := n1_; clear n0_ n1_; (try clear hb); (try clear hb2); (try clear hk); (try clear hi)))
    go_ret
    exact ⟨by first | rfl | (simp [errW_none, errW_some] <;> rfl) | (simp [*, errW_none, errW_some] <;> rfl), by repeat (first | (with_reducible first | exact HB.out | apply below_alloc | apply pw_below_drewN | apply below_drew1 | refine below_set ?_ GE229.out) | exact HB.out)⟩
  · rw [if_neg c6] at H
    have c6b0 : decide (4096 < (wrap64 ((wrap64 ((a1.size : Int) + (a2.size : Int))) + (a4_2.size : Int)))) = false := decide_eq_false c6
    clear c6
    replace H := Option.bind_eq_some_iff.mp H
    obtain ⟨⟨t231, t232, t233, t234⟩, A110, H⟩ := H
    replace H : (if t234 = 0 then ((pap_Asked.f t231 t232 t233).bind fun bt236 => (if bt236.2.2 = 0 then (if bt236.1.toList = a1.toList then (if bt236.2.1.toList = a2.toList then (if t232 = a0 then ((pap_Check.f t231 t232 t233 a1 a2).bind fun t239 => (if t239 = true then (halyardlaw18_PapBack.j0 k a0 a2 a3 a4_0 a4_1 a4_2) else (some false))) else (some false)) else (some false)) else (some false)) else (some false))) else (halyardlaw18_PapBack.j0 k a0 a2 a3 a4_0 a4_1 a4_2)) = some r := H
    have A11 := Aside0.mk A110
    clear A110
    have HC12 := Aside0.mk H
    clear H
    go_enter Try.func5, Try.ntmps5
    go_upto_if 50 with (first | ((with_reducible refine gate_dst (N := 9) rfl ?_); refine box_event ?hg (N := 9) ?hd (cs := #[.int .u8 a4_0, .int .u8 a4_1, .string a4_2]) (t := 25) ?hr ?_; (case hd => rfl); (case hg => rfl); (case hr => first | (go_simp; done) | (go_simp; rfl)); intro gb229 hg w13 hbox hb; have n0_ := Aside0.mk (below_step (by repeat (first | (with_reducible first | exact HB.out | apply below_alloc | apply pw_below_drewN | apply below_drew1) | exact HB.out)) hb); have n1_ := Aside0.mk (hbox); have n2_ := Aside0.mk ((by rw [hg]; exact (below_size (by repeat (first | (with_reducible first | exact HB.out | apply below_alloc | apply pw_below_drewN | apply below_drew1) | exact HB.out))) : w.heap.size ≤ gb229)); have n3_ := Aside0.mk ((by rw [hg]; exact (below_size (by repeat (first | (with_reducible first | exact HB.out | apply below_alloc | apply pw_below_drewN | apply below_drew1) | exact HB.out))) : w.heap.size ≤ gb229)); clear HB; have HB := n0_; have BK229 := n1_; have GW229 := n2_; have GE229 := n3_; clear n0_ n1_ n2_ n3_; clear hb hbox hg; have hcz14_0 : w13.cell? ⟨gb229, 0, none⟩ = some (.int .u8 a4_0) := (blk_cell BK229.out 0).trans rfl; have hcz14_1 : w13.cell? ⟨gb229, 1, none⟩ = some (.int .u8 a4_1) := (blk_cell BK229.out 1).trans rfl; have hcz14_2 : w13.cell? ⟨gb229, 2, none⟩ = some (.string a4_2) := (blk_cell BK229.out 2).trans rfl; have hfz14_0 := blk_frozen BK229.out 0; have hfz14_1 := blk_frozen BK229.out 1; have hfz14_2 := blk_frozen BK229.out 2) | ((with_reducible refine gate_callee (f := 17) rfl ?_); refine goesL_ (some 46) rfl rfl Try.func17 (by kernel_rfl) rfl #[.int .u8 a0, .string a1, .string a2] rfl (by (try simp only [List.map_toArray, List.map_cons, List.map_nil]); first | done | rfl | (simp only [List.length_drop, List.length_take]; rfl)) ?_; (with_reducible refine (pap_Request.calls a0 a1 a2 t231 t232 t233 t234 _ A11.out).mono ?_); rintro e w15 ⟨rfl, hb⟩; refine ⟨_, rfl, ?_⟩; have n0_ := Aside0.mk (blk_below (g := gb229) (o := .cells #[.int .u8 a4_0, .int .u8 a4_1, .string a4_2] 25 (0, 0)) (by (with_reducible repeat (first | refine blk_drewN ?_ _ | refine blk_drew ?_ | refine blk_alloc ?_ _)); exact BK229.out) hb); have n1_ := Aside0.mk (below_step (by repeat (first | (with_reducible first | exact HB.out | apply below_alloc | apply pw_below_drewN | apply below_drew1 | refine below_set ?_ GE229.out) | exact HB.out)) hb); clear BK229; clear HB; have BK229 := n0_; have HB := n1_; clear n0_ n1_; (try clear hb); (try clear hb2); (try clear hk); (try clear hi)) | ((with_reducible refine gate_dst (N := 11) rfl ?_); refine box_event ?hg (N := 11) ?hd (cs := #[.int .u8 0, .int .u8 0, .string (⟨#[]⟩ : ByteArray)]) (t := 25) ?hr ?_; (case hd => rfl); (case hg => rfl); (case hr => first | (go_simp; done) | (go_simp; rfl)); intro gb235 hg w16 hbox hb; have n0_ := Aside0.mk (blk_below (g := gb229) (o := .cells #[.int .u8 a4_0, .int .u8 a4_1, .string a4_2] 25 (0, 0)) (by (with_reducible repeat (first | refine blk_drewN ?_ _ | refine blk_drew ?_ | refine blk_alloc ?_ _)); exact BK229.out) hb); have n1_ := Aside0.mk (below_step (by repeat (first | (with_reducible first | exact HB.out | apply below_alloc | apply pw_below_drewN | apply below_drew1 | refine below_set ?_ GE229.out) | exact HB.out)) hb); have n2_ := Aside0.mk (hbox); have n3_ := Aside0.mk ((by rw [hg]; exact (below_size (by repeat (first | (with_reducible first | exact HB.out | apply below_alloc | apply pw_below_drewN | apply below_drew1 | refine below_set ?_ GE229.out) | exact HB.out))) : w.heap.size ≤ gb235)); have n4_ := Aside0.mk ((by rw [hg]; exact (below_size (by repeat (first | (with_reducible first | exact HB.out | apply below_alloc | apply pw_below_drewN | apply below_drew1 | refine below_set ?_ GE229.out) | exact HB.out))) : w.heap.size ≤ gb235)); have n5_ := Aside0.mk ((by rw [hg]; exact Nat.ne_of_lt (blk_lt (g := gb229) (o := .cells #[.int .u8 a4_0, .int .u8 a4_1, .string a4_2] 25 (0, 0)) (by (with_reducible repeat (first | refine blk_drewN ?_ _ | refine blk_drew ?_ | refine blk_alloc ?_ _)); exact BK229.out)) : gb229 ≠ gb235)); have n6_ := Aside0.mk ((by rw [hg]; exact Nat.ne_of_gt (blk_lt (g := gb229) (o := .cells #[.int .u8 a4_0, .int .u8 a4_1, .string a4_2] 25 (0, 0)) (by (with_reducible repeat (first | refine blk_drewN ?_ _ | refine blk_drew ?_ | refine blk_alloc ?_ _)); exact BK229.out)) : gb235 ≠ gb229)); clear BK229; clear HB; have BK229 := n0_; have HB := n1_; have BK235 := n2_; have GW235 := n3_; have GE235 := n4_; have NB229_235 := n5_; have NB235_229 := n6_; clear n0_ n1_ n2_ n3_ n4_ n5_ n6_; clear hb hbox hg; have hnb17 := NB235_229.out; have hnc17 := NB229_235.out; have hcz18_0 : w16.cell? ⟨gb235, 0, none⟩ = some (.int .u8 0) := (blk_cell BK235.out 0).trans rfl; have hcz18_1 : w16.cell? ⟨gb235, 1, none⟩ = some (.int .u8 0) := (blk_cell BK235.out 1).trans rfl; have hcz18_2 : w16.cell? ⟨gb235, 2, none⟩ = some (.string (⟨#[]⟩ : ByteArray)) := (blk_cell BK235.out 2).trans rfl; have hfz18_0 := blk_frozen BK235.out 0; have hfz18_1 := blk_frozen BK235.out 1; have hfz18_2 := blk_frozen BK235.out 2))
    (try simp only [Act.put, List.setIfInBounds_toArray, List.set_cons_zero, List.set_cons_succ])
    go_cut [] (fun wc => ∃ (kq : Nat), Aside0 (halyardlaw18_PapBack.j0 kq a0 a2 a3 a4_0 a4_1 a4_2 = some r) ∧ Aside0 (kq ≤ k) ∧ Aside0 (wc.heap[gb229]? = some (.cells #[.int .u8 a4_0, .int .u8 a4_1, .string a4_2] 25 (0, 0))) ∧ Aside0 (wc.heap[gb235]? = some (.cells #[.int .u8 t231, .int .u8 t232, .string t233] 25 (0, 0))) ∧ Aside0 (Below w.heap.size w wc))
    case first =>
      have H := HC12.out
      clear HC12
      by_cases c19 : t234 = 0
      · rw [if_pos c19] at H
        have c19b0 : (t234 == 0) = true := beq_iff_eq.mpr c19
        have c19b1 : (t234 != 0) = false := bne_eq_false_iff_eq.mpr c19
        clear c19
        (first | rw [c19b0] | (simp only [i64_w, i32_w]; rw [c19b0]) | skip)
        replace H := Option.bind_eq_some_iff.mp H
        obtain ⟨⟨t236, t237, t238⟩, A200, H⟩ := H
        replace H : (if t238 = 0 then (if t236.toList = a1.toList then (if t237.toList = a2.toList then (if t232 = a0 then ((pap_Check.f t231 t232 t233 a1 a2).bind fun t239 => (if t239 = true then (halyardlaw18_PapBack.j0 k a0 a2 a3 a4_0 a4_1 a4_2) else (some false))) else (some false)) else (some false)) else (some false)) else (some false)) = some r := H
        have A20 := Aside0.mk A200
        clear A200
        by_cases c21 : t238 = 0
        · rw [if_pos c21] at H
          have c21b0 : (t238 == 0) = true := beq_iff_eq.mpr c21
          have c21b1 : (t238 != 0) = false := bne_eq_false_iff_eq.mpr c21
          clear c21
          by_cases c22 : t236.toList = a1.toList
          · rw [if_pos c22] at H
            have c22b0 : (t236.toList == a1.toList) = true := beq_iff_eq.mpr c22
            have c22b1 : (t236.toList != a1.toList) = false := bne_eq_false_iff_eq.mpr c22
            clear c22
            by_cases c23 : t237.toList = a2.toList
            · rw [if_pos c23] at H
              have c23b0 : (t237.toList == a2.toList) = true := beq_iff_eq.mpr c23
              have c23b1 : (t237.toList != a2.toList) = false := bne_eq_false_iff_eq.mpr c23
              clear c23
              by_cases c24 : t232 = a0
              · rw [if_pos c24] at H
                have c24b0 : (t232 == a0) = true := beq_iff_eq.mpr c24
                have c24b1 : (t232 != a0) = false := bne_eq_false_iff_eq.mpr c24
                clear c24
                replace H := Option.bind_eq_some_iff.mp H
                obtain ⟨t239, A250, H⟩ := H
                replace H : (if t239 = true then (halyardlaw18_PapBack.j0 k a0 a2 a3 a4_0 a4_1 a4_2) else (some false)) = some r := H
                have A25 := Aside0.mk A250
                clear A250
                by_cases c26 : t239 = true
                · subst c26
                  have H1 : (halyardlaw18_PapBack.j0 k a0 a2 a3 a4_0 a4_1 a4_2) = some r := by rw [if_pos rfl] at H; exact H
                  clear H
                  have H := H1
                  clear H1
                  have H' := Aside0.mk H
                  clear H
                  have hnb27 := NB235_229.out
                  have hnc27 := NB229_235.out
                  have hcz28_0 : w16.cell? ⟨gb235, 0, none⟩ = some (.int .u8 0) := (blk_cell BK235.out 0).trans rfl
                  have hcz28_1 : w16.cell? ⟨gb235, 1, none⟩ = some (.int .u8 0) := (blk_cell BK235.out 1).trans rfl
                  have hcz28_2 : w16.cell? ⟨gb235, 2, none⟩ = some (.string (⟨#[]⟩ : ByteArray)) := (blk_cell BK235.out 2).trans rfl
                  have hfz28_0 := blk_frozen BK235.out 0
                  have hfz28_1 := blk_frozen BK235.out 1
                  have hfz28_2 := blk_frozen BK235.out 2
                  go_wp2_with (first | ((with_reducible refine gate_callee (f := 19) rfl ?_); refine goesL_ (some 53) rfl rfl Try.func19 (by kernel_rfl) rfl #[.agg #[.int .u8 t231, .int .u8 t232, .string t233]] rfl (by (try simp only [List.map_toArray, List.map_cons, List.map_nil]); first | done | rfl | (simp only [List.length_drop, List.length_take]; rfl)) ?_; (with_reducible refine (pap_Asked.calls t231 t232 t233 t236 t237 t238 _ A20.out).mono ?_); rintro e w29 ⟨rfl, hb⟩; refine ⟨_, rfl, ?_⟩; have n0_ := Aside0.mk (blk_below (g := gb229) (o := .cells #[.int .u8 a4_0, .int .u8 a4_1, .string a4_2] 25 (0, 0)) (by (with_reducible repeat (first | refine blk_drewN ?_ _ | refine blk_drew ?_ | refine blk_alloc ?_ _)); refine blk_far ?_ NB229_235.out _; (with_reducible repeat (first | refine blk_drewN ?_ _ | refine blk_drew ?_ | refine blk_alloc ?_ _)); refine blk_far ?_ NB229_235.out _; (with_reducible repeat (first | refine blk_drewN ?_ _ | refine blk_drew ?_ | refine blk_alloc ?_ _)); refine blk_far ?_ NB229_235.out _; (with_reducible repeat (first | refine blk_drewN ?_ _ | refine blk_drew ?_ | refine blk_alloc ?_ _)); exact BK229.out) hb); have n1_ := Aside0.mk (blk_below (g := gb235) (o := .cells #[.int .u8 t231, .int .u8 t232, .string t233] 25 (0, 0)) (by (with_reducible repeat (first | refine blk_drewN ?_ _ | refine blk_drew ?_ | refine blk_alloc ?_ _)); refine blk_put (cs := #[.int .u8 t231, .int .u8 t232, .string (⟨#[]⟩ : ByteArray)]) ?_ 2 _ rfl; (with_reducible repeat (first | refine blk_drewN ?_ _ | refine blk_drew ?_ | refine blk_alloc ?_ _)); refine blk_put (cs := #[.int .u8 t231, .int .u8 0, .string (⟨#[]⟩ : ByteArray)]) ?_ 1 _ rfl; (with_reducible repeat (first | refine blk_drewN ?_ _ | refine blk_drew ?_ | refine blk_alloc ?_ _)); refine blk_put (cs := #[.int .u8 0, .int .u8 0, .string (⟨#[]⟩ : ByteArray)]) ?_ 0 _ rfl; (with_reducible repeat (first | refine blk_drewN ?_ _ | refine blk_drew ?_ | refine blk_alloc ?_ _)); exact BK235.out) hb); have n2_ := Aside0.mk (below_step (by repeat (first | (with_reducible first | exact HB.out | apply below_alloc | apply pw_below_drewN | apply below_drew1 | refine below_set ?_ GE229.out | refine below_set ?_ GE235.out) | exact HB.out)) hb); clear BK229; clear BK235; clear HB; have BK229 := n0_; have BK235 := n1_; have HB := n2_; clear n0_ n1_ n2_; (try clear hb); (try clear hb2); (try clear hk); (try clear hi); have hcz30_0 : w29.cell? ⟨gb235, 0, none⟩ = some (.int .u8 t231) := (blk_cell BK235.out 0).trans rfl; have hcz30_1 : w29.cell? ⟨gb235, 1, none⟩ = some (.int .u8 t232) := (blk_cell BK235.out 1).trans rfl; have hcz30_2 : w29.cell? ⟨gb235, 2, none⟩ = some (.string t233) := (blk_cell BK235.out 2).trans rfl; have hfz30_0 := blk_frozen BK235.out 0; have hfz30_1 := blk_frozen BK235.out 1; have hfz30_2 := blk_frozen BK235.out 2) | (go_at_call 18; (with_reducible refine (pap_Check.calls t231 t232 t233 a1 a2 true _ A25.out).mono ?_); rintro e w31 ⟨rfl, hb⟩; have n0_ := Aside0.mk (blk_below (g := gb229) (o := .cells #[.int .u8 a4_0, .int .u8 a4_1, .string a4_2] 25 (0, 0)) (by (with_reducible repeat (first | refine blk_drewN ?_ _ | refine blk_drew ?_ | refine blk_alloc ?_ _)); exact BK229.out) hb); have n1_ := Aside0.mk (blk_below (g := gb235) (o := .cells #[.int .u8 t231, .int .u8 t232, .string t233] 25 (0, 0)) (by (with_reducible repeat (first | refine blk_drewN ?_ _ | refine blk_drew ?_ | refine blk_alloc ?_ _)); exact BK235.out) hb); have n2_ := Aside0.mk (below_step (by repeat (first | (with_reducible first | exact HB.out | apply below_alloc | apply pw_below_drewN | apply below_drew1 | refine below_set ?_ GE229.out | refine below_set ?_ GE235.out) | exact HB.out)) hb); clear BK229; clear BK235; clear HB; have BK229 := n0_; have BK235 := n1_; have HB := n2_; clear n0_ n1_ n2_; (try clear hb); (try clear hb2); (try clear hk); (try clear hi)))
                  go_meet
                  case rel => exact ⟨_, H', ⟨by first | omega | exact Nat.le_refl _⟩, ⟨by (with_reducible repeat (first | refine blk_drewN ?_ _ | refine blk_drew ?_ | refine blk_alloc ?_ _)); exact BK229.out⟩, ⟨by (with_reducible repeat (first | refine blk_drewN ?_ _ | refine blk_drew ?_ | refine blk_alloc ?_ _)); exact BK235.out⟩, ⟨by repeat (first | (with_reducible first | exact HB.out | apply below_alloc | apply pw_below_drewN | apply below_drew1 | refine below_set ?_ GE229.out | refine below_set ?_ GE235.out) | exact HB.out)⟩⟩
                · replace c26 := Bool.eq_false_iff.mpr c26
                  subst c26
                  have H1 : (some false) = some r := by rw [if_neg (show ¬ (false = true) by decide)] at H; exact H
                  clear H
                  have H := H1
                  clear H1
                  obtain rfl := Option.some.inj H
                  have hnb32 := NB235_229.out
                  have hnc32 := NB229_235.out
                  have hcz33_0 : w16.cell? ⟨gb235, 0, none⟩ = some (.int .u8 0) := (blk_cell BK235.out 0).trans rfl
                  have hcz33_1 : w16.cell? ⟨gb235, 1, none⟩ = some (.int .u8 0) := (blk_cell BK235.out 1).trans rfl
                  have hcz33_2 : w16.cell? ⟨gb235, 2, none⟩ = some (.string (⟨#[]⟩ : ByteArray)) := (blk_cell BK235.out 2).trans rfl
                  have hfz33_0 := blk_frozen BK235.out 0
                  have hfz33_1 := blk_frozen BK235.out 1
                  have hfz33_2 := blk_frozen BK235.out 2
                  go_wp2_with (first | ((with_reducible refine gate_callee (f := 19) rfl ?_); refine goesL_ (some 53) rfl rfl Try.func19 (by kernel_rfl) rfl #[.agg #[.int .u8 t231, .int .u8 t232, .string t233]] rfl (by (try simp only [List.map_toArray, List.map_cons, List.map_nil]); first | done | rfl | (simp only [List.length_drop, List.length_take]; rfl)) ?_; (with_reducible refine (pap_Asked.calls t231 t232 t233 t236 t237 t238 _ A20.out).mono ?_); rintro e w34 ⟨rfl, hb⟩; refine ⟨_, rfl, ?_⟩; have n0_ := Aside0.mk (blk_below (g := gb229) (o := .cells #[.int .u8 a4_0, .int .u8 a4_1, .string a4_2] 25 (0, 0)) (by (with_reducible repeat (first | refine blk_drewN ?_ _ | refine blk_drew ?_ | refine blk_alloc ?_ _)); refine blk_far ?_ NB229_235.out _; (with_reducible repeat (first | refine blk_drewN ?_ _ | refine blk_drew ?_ | refine blk_alloc ?_ _)); refine blk_far ?_ NB229_235.out _; (with_reducible repeat (first | refine blk_drewN ?_ _ | refine blk_drew ?_ | refine blk_alloc ?_ _)); refine blk_far ?_ NB229_235.out _; (with_reducible repeat (first | refine blk_drewN ?_ _ | refine blk_drew ?_ | refine blk_alloc ?_ _)); exact BK229.out) hb); have n1_ := Aside0.mk (blk_below (g := gb235) (o := .cells #[.int .u8 t231, .int .u8 t232, .string t233] 25 (0, 0)) (by (with_reducible repeat (first | refine blk_drewN ?_ _ | refine blk_drew ?_ | refine blk_alloc ?_ _)); refine blk_put (cs := #[.int .u8 t231, .int .u8 t232, .string (⟨#[]⟩ : ByteArray)]) ?_ 2 _ rfl; (with_reducible repeat (first | refine blk_drewN ?_ _ | refine blk_drew ?_ | refine blk_alloc ?_ _)); refine blk_put (cs := #[.int .u8 t231, .int .u8 0, .string (⟨#[]⟩ : ByteArray)]) ?_ 1 _ rfl; (with_reducible repeat (first | refine blk_drewN ?_ _ | refine blk_drew ?_ | refine blk_alloc ?_ _)); refine blk_put (cs := #[.int .u8 0, .int .u8 0, .string (⟨#[]⟩ : ByteArray)]) ?_ 0 _ rfl; (with_reducible repeat (first | refine blk_drewN ?_ _ | refine blk_drew ?_ | refine blk_alloc ?_ _)); exact BK235.out) hb); have n2_ := Aside0.mk (below_step (by repeat (first | (with_reducible first | exact HB.out | apply below_alloc | apply pw_below_drewN | apply below_drew1 | refine below_set ?_ GE229.out | refine below_set ?_ GE235.out) | exact HB.out)) hb); clear BK229; clear BK235; clear HB; have BK229 := n0_; have BK235 := n1_; have HB := n2_; clear n0_ n1_ n2_; (try clear hb); (try clear hb2); (try clear hk); (try clear hi); have hcz35_0 : w34.cell? ⟨gb235, 0, none⟩ = some (.int .u8 t231) := (blk_cell BK235.out 0).trans rfl; have hcz35_1 : w34.cell? ⟨gb235, 1, none⟩ = some (.int .u8 t232) := (blk_cell BK235.out 1).trans rfl; have hcz35_2 : w34.cell? ⟨gb235, 2, none⟩ = some (.string t233) := (blk_cell BK235.out 2).trans rfl; have hfz35_0 := blk_frozen BK235.out 0; have hfz35_1 := blk_frozen BK235.out 1; have hfz35_2 := blk_frozen BK235.out 2) | (go_at_call 18; (with_reducible refine (pap_Check.calls t231 t232 t233 a1 a2 false _ A25.out).mono ?_); rintro e w36 ⟨rfl, hb⟩; have n0_ := Aside0.mk (blk_below (g := gb229) (o := .cells #[.int .u8 a4_0, .int .u8 a4_1, .string a4_2] 25 (0, 0)) (by (with_reducible repeat (first | refine blk_drewN ?_ _ | refine blk_drew ?_ | refine blk_alloc ?_ _)); exact BK229.out) hb); have n1_ := Aside0.mk (blk_below (g := gb235) (o := .cells #[.int .u8 t231, .int .u8 t232, .string t233] 25 (0, 0)) (by (with_reducible repeat (first | refine blk_drewN ?_ _ | refine blk_drew ?_ | refine blk_alloc ?_ _)); exact BK235.out) hb); have n2_ := Aside0.mk (below_step (by repeat (first | (with_reducible first | exact HB.out | apply below_alloc | apply pw_below_drewN | apply below_drew1 | refine below_set ?_ GE229.out | refine below_set ?_ GE235.out) | exact HB.out)) hb); clear BK229; clear BK235; clear HB; have BK229 := n0_; have BK235 := n1_; have HB := n2_; clear n0_ n1_ n2_; (try clear hb); (try clear hb2); (try clear hk); (try clear hi)))
                  go_ret
                  exact ⟨by first | rfl | (simp [errW_none, errW_some] <;> rfl) | (simp [*, errW_none, errW_some] <;> rfl), by repeat (first | (with_reducible first | exact HB.out | apply below_alloc | apply pw_below_drewN | apply below_drew1 | refine below_set ?_ GE229.out | refine below_set ?_ GE235.out) | exact HB.out)⟩
              · rw [if_neg c24] at H
                have c24b0 : (t232 == a0) = false := beq_eq_false_iff_ne.mpr c24
                have c24b1 : (t232 != a0) = true := bne_iff_ne.mpr c24
                obtain rfl := Option.some.inj H
                have hnb37 := NB235_229.out
                have hnc37 := NB229_235.out
                have hcz38_0 : w16.cell? ⟨gb235, 0, none⟩ = some (.int .u8 0) := (blk_cell BK235.out 0).trans rfl
                have hcz38_1 : w16.cell? ⟨gb235, 1, none⟩ = some (.int .u8 0) := (blk_cell BK235.out 1).trans rfl
                have hcz38_2 : w16.cell? ⟨gb235, 2, none⟩ = some (.string (⟨#[]⟩ : ByteArray)) := (blk_cell BK235.out 2).trans rfl
                have hfz38_0 := blk_frozen BK235.out 0
                have hfz38_1 := blk_frozen BK235.out 1
                have hfz38_2 := blk_frozen BK235.out 2
                go_wp2_with (first | ((with_reducible refine gate_callee (f := 19) rfl ?_); refine goesL_ (some 53) rfl rfl Try.func19 (by kernel_rfl) rfl #[.agg #[.int .u8 t231, .int .u8 t232, .string t233]] rfl (by (try simp only [List.map_toArray, List.map_cons, List.map_nil]); first | done | rfl | (simp only [List.length_drop, List.length_take]; rfl)) ?_; (with_reducible refine (pap_Asked.calls t231 t232 t233 t236 t237 t238 _ A20.out).mono ?_); rintro e w39 ⟨rfl, hb⟩; refine ⟨_, rfl, ?_⟩; have n0_ := Aside0.mk (blk_below (g := gb229) (o := .cells #[.int .u8 a4_0, .int .u8 a4_1, .string a4_2] 25 (0, 0)) (by (with_reducible repeat (first | refine blk_drewN ?_ _ | refine blk_drew ?_ | refine blk_alloc ?_ _)); refine blk_far ?_ NB229_235.out _; (with_reducible repeat (first | refine blk_drewN ?_ _ | refine blk_drew ?_ | refine blk_alloc ?_ _)); refine blk_far ?_ NB229_235.out _; (with_reducible repeat (first | refine blk_drewN ?_ _ | refine blk_drew ?_ | refine blk_alloc ?_ _)); refine blk_far ?_ NB229_235.out _; (with_reducible repeat (first | refine blk_drewN ?_ _ | refine blk_drew ?_ | refine blk_alloc ?_ _)); exact BK229.out) hb); have n1_ := Aside0.mk (blk_below (g := gb235) (o := .cells #[.int .u8 t231, .int .u8 t232, .string t233] 25 (0, 0)) (by (with_reducible repeat (first | refine blk_drewN ?_ _ | refine blk_drew ?_ | refine blk_alloc ?_ _)); refine blk_put (cs := #[.int .u8 t231, .int .u8 t232, .string (⟨#[]⟩ : ByteArray)]) ?_ 2 _ rfl; (with_reducible repeat (first | refine blk_drewN ?_ _ | refine blk_drew ?_ | refine blk_alloc ?_ _)); refine blk_put (cs := #[.int .u8 t231, .int .u8 0, .string (⟨#[]⟩ : ByteArray)]) ?_ 1 _ rfl; (with_reducible repeat (first | refine blk_drewN ?_ _ | refine blk_drew ?_ | refine blk_alloc ?_ _)); refine blk_put (cs := #[.int .u8 0, .int .u8 0, .string (⟨#[]⟩ : ByteArray)]) ?_ 0 _ rfl; (with_reducible repeat (first | refine blk_drewN ?_ _ | refine blk_drew ?_ | refine blk_alloc ?_ _)); exact BK235.out) hb); have n2_ := Aside0.mk (below_step (by repeat (first | (with_reducible first | exact HB.out | apply below_alloc | apply pw_below_drewN | apply below_drew1 | refine below_set ?_ GE229.out | refine below_set ?_ GE235.out) | exact HB.out)) hb); clear BK229; clear BK235; clear HB; have BK229 := n0_; have BK235 := n1_; have HB := n2_; clear n0_ n1_ n2_; (try clear hb); (try clear hb2); (try clear hk); (try clear hi); have hcz40_0 : w39.cell? ⟨gb235, 0, none⟩ = some (.int .u8 t231) := (blk_cell BK235.out 0).trans rfl; have hcz40_1 : w39.cell? ⟨gb235, 1, none⟩ = some (.int .u8 t232) := (blk_cell BK235.out 1).trans rfl; have hcz40_2 : w39.cell? ⟨gb235, 2, none⟩ = some (.string t233) := (blk_cell BK235.out 2).trans rfl; have hfz40_0 := blk_frozen BK235.out 0; have hfz40_1 := blk_frozen BK235.out 1; have hfz40_2 := blk_frozen BK235.out 2))
                go_ret
                exact ⟨by first | rfl | (simp [errW_none, errW_some] <;> rfl) | (simp [*, errW_none, errW_some] <;> rfl), by repeat (first | (with_reducible first | exact HB.out | apply below_alloc | apply pw_below_drewN | apply below_drew1 | refine below_set ?_ GE229.out | refine below_set ?_ GE235.out) | exact HB.out)⟩
            · rw [if_neg c23] at H
              have c23b0 : (t237.toList == a2.toList) = false := beq_eq_false_iff_ne.mpr c23
              have c23b1 : (t237.toList != a2.toList) = true := bne_iff_ne.mpr c23
              obtain rfl := Option.some.inj H
              have hnb41 := NB235_229.out
              have hnc41 := NB229_235.out
              have hcz42_0 : w16.cell? ⟨gb235, 0, none⟩ = some (.int .u8 0) := (blk_cell BK235.out 0).trans rfl
              have hcz42_1 : w16.cell? ⟨gb235, 1, none⟩ = some (.int .u8 0) := (blk_cell BK235.out 1).trans rfl
              have hcz42_2 : w16.cell? ⟨gb235, 2, none⟩ = some (.string (⟨#[]⟩ : ByteArray)) := (blk_cell BK235.out 2).trans rfl
              have hfz42_0 := blk_frozen BK235.out 0
              have hfz42_1 := blk_frozen BK235.out 1
              have hfz42_2 := blk_frozen BK235.out 2
              go_wp2_with (first | ((with_reducible refine gate_callee (f := 19) rfl ?_); refine goesL_ (some 53) rfl rfl Try.func19 (by kernel_rfl) rfl #[.agg #[.int .u8 t231, .int .u8 t232, .string t233]] rfl (by (try simp only [List.map_toArray, List.map_cons, List.map_nil]); first | done | rfl | (simp only [List.length_drop, List.length_take]; rfl)) ?_; (with_reducible refine (pap_Asked.calls t231 t232 t233 t236 t237 t238 _ A20.out).mono ?_); rintro e w43 ⟨rfl, hb⟩; refine ⟨_, rfl, ?_⟩; have n0_ := Aside0.mk (blk_below (g := gb229) (o := .cells #[.int .u8 a4_0, .int .u8 a4_1, .string a4_2] 25 (0, 0)) (by (with_reducible repeat (first | refine blk_drewN ?_ _ | refine blk_drew ?_ | refine blk_alloc ?_ _)); refine blk_far ?_ NB229_235.out _; (with_reducible repeat (first | refine blk_drewN ?_ _ | refine blk_drew ?_ | refine blk_alloc ?_ _)); refine blk_far ?_ NB229_235.out _; (with_reducible repeat (first | refine blk_drewN ?_ _ | refine blk_drew ?_ | refine blk_alloc ?_ _)); refine blk_far ?_ NB229_235.out _; (with_reducible repeat (first | refine blk_drewN ?_ _ | refine blk_drew ?_ | refine blk_alloc ?_ _)); exact BK229.out) hb); have n1_ := Aside0.mk (blk_below (g := gb235) (o := .cells #[.int .u8 t231, .int .u8 t232, .string t233] 25 (0, 0)) (by (with_reducible repeat (first | refine blk_drewN ?_ _ | refine blk_drew ?_ | refine blk_alloc ?_ _)); refine blk_put (cs := #[.int .u8 t231, .int .u8 t232, .string (⟨#[]⟩ : ByteArray)]) ?_ 2 _ rfl; (with_reducible repeat (first | refine blk_drewN ?_ _ | refine blk_drew ?_ | refine blk_alloc ?_ _)); refine blk_put (cs := #[.int .u8 t231, .int .u8 0, .string (⟨#[]⟩ : ByteArray)]) ?_ 1 _ rfl; (with_reducible repeat (first | refine blk_drewN ?_ _ | refine blk_drew ?_ | refine blk_alloc ?_ _)); refine blk_put (cs := #[.int .u8 0, .int .u8 0, .string (⟨#[]⟩ : ByteArray)]) ?_ 0 _ rfl; (with_reducible repeat (first | refine blk_drewN ?_ _ | refine blk_drew ?_ | refine blk_alloc ?_ _)); exact BK235.out) hb); have n2_ := Aside0.mk (below_step (by repeat (first | (with_reducible first | exact HB.out | apply below_alloc | apply pw_below_drewN | apply below_drew1 | refine below_set ?_ GE229.out | refine below_set ?_ GE235.out) | exact HB.out)) hb); clear BK229; clear BK235; clear HB; have BK229 := n0_; have BK235 := n1_; have HB := n2_; clear n0_ n1_ n2_; (try clear hb); (try clear hb2); (try clear hk); (try clear hi)))
              go_ret
              exact ⟨by first | rfl | (simp [errW_none, errW_some] <;> rfl) | (simp [*, errW_none, errW_some] <;> rfl), by repeat (first | (with_reducible first | exact HB.out | apply below_alloc | apply pw_below_drewN | apply below_drew1 | refine below_set ?_ GE229.out | refine below_set ?_ GE235.out) | exact HB.out)⟩
          · rw [if_neg c22] at H
            have c22b0 : (t236.toList == a1.toList) = false := beq_eq_false_iff_ne.mpr c22
            have c22b1 : (t236.toList != a1.toList) = true := bne_iff_ne.mpr c22
            obtain rfl := Option.some.inj H
            have hnb44 := NB235_229.out
            have hnc44 := NB229_235.out
            have hcz45_0 : w16.cell? ⟨gb235, 0, none⟩ = some (.int .u8 0) := (blk_cell BK235.out 0).trans rfl
            have hcz45_1 : w16.cell? ⟨gb235, 1, none⟩ = some (.int .u8 0) := (blk_cell BK235.out 1).trans rfl
            have hcz45_2 : w16.cell? ⟨gb235, 2, none⟩ = some (.string (⟨#[]⟩ : ByteArray)) := (blk_cell BK235.out 2).trans rfl
            have hfz45_0 := blk_frozen BK235.out 0
            have hfz45_1 := blk_frozen BK235.out 1
            have hfz45_2 := blk_frozen BK235.out 2
            go_wp2_with (first | ((with_reducible refine gate_callee (f := 19) rfl ?_); refine goesL_ (some 53) rfl rfl Try.func19 (by kernel_rfl) rfl #[.agg #[.int .u8 t231, .int .u8 t232, .string t233]] rfl (by (try simp only [List.map_toArray, List.map_cons, List.map_nil]); first | done | rfl | (simp only [List.length_drop, List.length_take]; rfl)) ?_; (with_reducible refine (pap_Asked.calls t231 t232 t233 t236 t237 t238 _ A20.out).mono ?_); rintro e w46 ⟨rfl, hb⟩; refine ⟨_, rfl, ?_⟩; have n0_ := Aside0.mk (blk_below (g := gb229) (o := .cells #[.int .u8 a4_0, .int .u8 a4_1, .string a4_2] 25 (0, 0)) (by (with_reducible repeat (first | refine blk_drewN ?_ _ | refine blk_drew ?_ | refine blk_alloc ?_ _)); refine blk_far ?_ NB229_235.out _; (with_reducible repeat (first | refine blk_drewN ?_ _ | refine blk_drew ?_ | refine blk_alloc ?_ _)); refine blk_far ?_ NB229_235.out _; (with_reducible repeat (first | refine blk_drewN ?_ _ | refine blk_drew ?_ | refine blk_alloc ?_ _)); refine blk_far ?_ NB229_235.out _; (with_reducible repeat (first | refine blk_drewN ?_ _ | refine blk_drew ?_ | refine blk_alloc ?_ _)); exact BK229.out) hb); have n1_ := Aside0.mk (blk_below (g := gb235) (o := .cells #[.int .u8 t231, .int .u8 t232, .string t233] 25 (0, 0)) (by (with_reducible repeat (first | refine blk_drewN ?_ _ | refine blk_drew ?_ | refine blk_alloc ?_ _)); refine blk_put (cs := #[.int .u8 t231, .int .u8 t232, .string (⟨#[]⟩ : ByteArray)]) ?_ 2 _ rfl; (with_reducible repeat (first | refine blk_drewN ?_ _ | refine blk_drew ?_ | refine blk_alloc ?_ _)); refine blk_put (cs := #[.int .u8 t231, .int .u8 0, .string (⟨#[]⟩ : ByteArray)]) ?_ 1 _ rfl; (with_reducible repeat (first | refine blk_drewN ?_ _ | refine blk_drew ?_ | refine blk_alloc ?_ _)); refine blk_put (cs := #[.int .u8 0, .int .u8 0, .string (⟨#[]⟩ : ByteArray)]) ?_ 0 _ rfl; (with_reducible repeat (first | refine blk_drewN ?_ _ | refine blk_drew ?_ | refine blk_alloc ?_ _)); exact BK235.out) hb); have n2_ := Aside0.mk (below_step (by repeat (first | (with_reducible first | exact HB.out | apply below_alloc | apply pw_below_drewN | apply below_drew1 | refine below_set ?_ GE229.out | refine below_set ?_ GE235.out) | exact HB.out)) hb); clear BK229; clear BK235; clear HB; have BK229 := n0_; have BK235 := n1_; have HB := n2_; clear n0_ n1_ n2_; (try clear hb); (try clear hb2); (try clear hk); (try clear hi)))
            go_ret
            exact ⟨by first | rfl | (simp [errW_none, errW_some] <;> rfl) | (simp [*, errW_none, errW_some] <;> rfl), by repeat (first | (with_reducible first | exact HB.out | apply below_alloc | apply pw_below_drewN | apply below_drew1 | refine below_set ?_ GE229.out | refine below_set ?_ GE235.out) | exact HB.out)⟩
        · rw [if_neg c21] at H
          have c21b0 : (t238 == 0) = false := beq_eq_false_iff_ne.mpr c21
          have c21b1 : (t238 != 0) = true := bne_iff_ne.mpr c21
          obtain rfl := Option.some.inj H
          have hnb47 := NB235_229.out
          have hnc47 := NB229_235.out
          have hcz48_0 : w16.cell? ⟨gb235, 0, none⟩ = some (.int .u8 0) := (blk_cell BK235.out 0).trans rfl
          have hcz48_1 : w16.cell? ⟨gb235, 1, none⟩ = some (.int .u8 0) := (blk_cell BK235.out 1).trans rfl
          have hcz48_2 : w16.cell? ⟨gb235, 2, none⟩ = some (.string (⟨#[]⟩ : ByteArray)) := (blk_cell BK235.out 2).trans rfl
          have hfz48_0 := blk_frozen BK235.out 0
          have hfz48_1 := blk_frozen BK235.out 1
          have hfz48_2 := blk_frozen BK235.out 2
          go_wp2_with (first | ((with_reducible refine gate_callee (f := 19) rfl ?_); refine goesL_ (some 53) rfl rfl Try.func19 (by kernel_rfl) rfl #[.agg #[.int .u8 t231, .int .u8 t232, .string t233]] rfl (by (try simp only [List.map_toArray, List.map_cons, List.map_nil]); first | done | rfl | (simp only [List.length_drop, List.length_take]; rfl)) ?_; (with_reducible refine (pap_Asked.calls t231 t232 t233 t236 t237 t238 _ A20.out).mono ?_); rintro e w49 ⟨rfl, hb⟩; refine ⟨_, rfl, ?_⟩; have n0_ := Aside0.mk (blk_below (g := gb229) (o := .cells #[.int .u8 a4_0, .int .u8 a4_1, .string a4_2] 25 (0, 0)) (by (with_reducible repeat (first | refine blk_drewN ?_ _ | refine blk_drew ?_ | refine blk_alloc ?_ _)); refine blk_far ?_ NB229_235.out _; (with_reducible repeat (first | refine blk_drewN ?_ _ | refine blk_drew ?_ | refine blk_alloc ?_ _)); refine blk_far ?_ NB229_235.out _; (with_reducible repeat (first | refine blk_drewN ?_ _ | refine blk_drew ?_ | refine blk_alloc ?_ _)); refine blk_far ?_ NB229_235.out _; (with_reducible repeat (first | refine blk_drewN ?_ _ | refine blk_drew ?_ | refine blk_alloc ?_ _)); exact BK229.out) hb); have n1_ := Aside0.mk (blk_below (g := gb235) (o := .cells #[.int .u8 t231, .int .u8 t232, .string t233] 25 (0, 0)) (by (with_reducible repeat (first | refine blk_drewN ?_ _ | refine blk_drew ?_ | refine blk_alloc ?_ _)); refine blk_put (cs := #[.int .u8 t231, .int .u8 t232, .string (⟨#[]⟩ : ByteArray)]) ?_ 2 _ rfl; (with_reducible repeat (first | refine blk_drewN ?_ _ | refine blk_drew ?_ | refine blk_alloc ?_ _)); refine blk_put (cs := #[.int .u8 t231, .int .u8 0, .string (⟨#[]⟩ : ByteArray)]) ?_ 1 _ rfl; (with_reducible repeat (first | refine blk_drewN ?_ _ | refine blk_drew ?_ | refine blk_alloc ?_ _)); refine blk_put (cs := #[.int .u8 0, .int .u8 0, .string (⟨#[]⟩ : ByteArray)]) ?_ 0 _ rfl; (with_reducible repeat (first | refine blk_drewN ?_ _ | refine blk_drew ?_ | refine blk_alloc ?_ _)); exact BK235.out) hb); have n2_ := Aside0.mk (below_step (by repeat (first | (with_reducible first | exact HB.out | apply below_alloc | apply pw_below_drewN | apply below_drew1 | refine below_set ?_ GE229.out | refine below_set ?_ GE235.out) | exact HB.out)) hb); clear BK229; clear BK235; clear HB; have BK229 := n0_; have BK235 := n1_; have HB := n2_; clear n0_ n1_ n2_; (try clear hb); (try clear hb2); (try clear hk); (try clear hi)))
          go_ret
          exact ⟨by first | rfl | (simp [errW_none, errW_some] <;> rfl) | (simp [*, errW_none, errW_some] <;> rfl), by repeat (first | (with_reducible first | exact HB.out | apply below_alloc | apply pw_below_drewN | apply below_drew1 | refine below_set ?_ GE229.out | refine below_set ?_ GE235.out) | exact HB.out)⟩
      · rw [if_neg c19] at H
        have c19b0 : (t234 == 0) = false := beq_eq_false_iff_ne.mpr c19
        have c19b1 : (t234 != 0) = true := bne_iff_ne.mpr c19
        (first | rw [c19b0] | (simp only [i64_w, i32_w]; rw [c19b0]) | skip)
        have H' := Aside0.mk H
        clear H
        go_wp2
        go_meet
        case rel => exact ⟨_, H', ⟨by first | omega | exact Nat.le_refl _⟩, ⟨by (with_reducible repeat (first | refine blk_drewN ?_ _ | refine blk_drew ?_ | refine blk_alloc ?_ _)); refine blk_far ?_ NB229_235.out _; (with_reducible repeat (first | refine blk_drewN ?_ _ | refine blk_drew ?_ | refine blk_alloc ?_ _)); refine blk_far ?_ NB229_235.out _; (with_reducible repeat (first | refine blk_drewN ?_ _ | refine blk_drew ?_ | refine blk_alloc ?_ _)); refine blk_far ?_ NB229_235.out _; (with_reducible repeat (first | refine blk_drewN ?_ _ | refine blk_drew ?_ | refine blk_alloc ?_ _)); exact BK229.out⟩, ⟨by (with_reducible repeat (first | refine blk_drewN ?_ _ | refine blk_drew ?_ | refine blk_alloc ?_ _)); refine blk_put (cs := #[.int .u8 t231, .int .u8 t232, .string (⟨#[]⟩ : ByteArray)]) ?_ 2 _ rfl; (with_reducible repeat (first | refine blk_drewN ?_ _ | refine blk_drew ?_ | refine blk_alloc ?_ _)); refine blk_put (cs := #[.int .u8 t231, .int .u8 0, .string (⟨#[]⟩ : ByteArray)]) ?_ 1 _ rfl; (with_reducible repeat (first | refine blk_drewN ?_ _ | refine blk_drew ?_ | refine blk_alloc ?_ _)); refine blk_put (cs := #[.int .u8 0, .int .u8 0, .string (⟨#[]⟩ : ByteArray)]) ?_ 0 _ rfl; (with_reducible repeat (first | refine blk_drewN ?_ _ | refine blk_drew ?_ | refine blk_alloc ?_ _)); exact BK235.out⟩, ⟨by repeat (first | (with_reducible first | exact HB.out | apply below_alloc | apply pw_below_drewN | apply below_drew1 | refine below_set ?_ GE229.out | refine below_set ?_ GE235.out) | exact HB.out)⟩⟩
    case rest =>
      clear HC12
      try clear c1
      try clear c2
      try clear p2
      try clear c3
      try clear c4
      try clear c5
      try clear c6
      try clear c6b0
      try clear p6
      try clear c16
      try clear c17
      try clear c19
      try clear c19b0
      try clear c19b1
      try clear c21
      try clear c21b0
      try clear c21b1
      try clear c22
      try clear c22b0
      try clear c22b1
      try clear c23
      try clear c23b0
      try clear c23b1
      try clear c24
      try clear c24b0
      try clear c24b1
      try clear c26
      try clear c27
      try clear c32
      try clear c37
      try clear c41
      try clear c44
      try clear c47
      try clear hcz14_0
      try clear hcz14_1
      try clear hcz14_2
      try clear hcz18_0
      try clear hcz18_1
      try clear hcz18_2
      try clear hcz28_0
      try clear hcz28_1
      try clear hcz28_2
      try clear hcz30_0
      try clear hcz30_1
      try clear hcz30_2
      try clear hcz33_0
      try clear hcz33_1
      try clear hcz33_2
      try clear hcz35_0
      try clear hcz35_1
      try clear hcz35_2
      try clear hcz38_0
      try clear hcz38_1
      try clear hcz38_2
      try clear hcz40_0
      try clear hcz40_1
      try clear hcz40_2
      try clear hcz42_0
      try clear hcz42_1
      try clear hcz42_2
      try clear hcz45_0
      try clear hcz45_1
      try clear hcz45_2
      try clear hcz48_0
      try clear hcz48_1
      try clear hcz48_2
      try clear hcz9_0
      try clear hcz9_1
      try clear hcz9_2
      try clear hfz14_0
      try clear hfz14_1
      try clear hfz14_2
      try clear hfz18_0
      try clear hfz18_1
      try clear hfz18_2
      try clear hfz28_0
      try clear hfz28_1
      try clear hfz28_2
      try clear hfz30_0
      try clear hfz30_1
      try clear hfz30_2
      try clear hfz33_0
      try clear hfz33_1
      try clear hfz33_2
      try clear hfz35_0
      try clear hfz35_1
      try clear hfz35_2
      try clear hfz38_0
      try clear hfz38_1
      try clear hfz38_2
      try clear hfz40_0
      try clear hfz40_1
      try clear hfz40_2
      try clear hfz42_0
      try clear hfz42_1
      try clear hfz42_2
      try clear hfz45_0
      try clear hfz45_1
      try clear hfz45_2
      try clear hfz48_0
      try clear hfz48_1
      try clear hfz48_2
      try clear hfz9_0
      try clear hfz9_1
      try clear hfz9_2
      obtain ⟨kq, HA, HJ11, BK229, BK235, HB⟩ := hcut
      cases kq with
      | zero => exact absurd HA.out (by simp [halyardlaw18_PapBack.j0])
      | succ kj11 =>
        have H := HA.out
        clear HA
        simp only [halyardlaw18_PapBack.j0] at H
        replace H := Option.bind_eq_some_iff.mp H
        obtain ⟨⟨t240, t241, t242, t243⟩, A500, H⟩ := H
        replace H : (if t243 = 0 then ((pap_Answered.f kj11 t240 t241 t242).bind fun bt245 => (if bt245.2.2 = 0 then (if (bt245.1 != a3) = true then (some false) else (if bt245.2.1.toList = a2.toList then (if t241 = a0 then (halyardlaw18_PapBack.j1 kj11 a4_0 a4_1 a4_2) else (some false)) else (some false))) else (some false))) else (halyardlaw18_PapBack.j1 kj11 a4_0 a4_1 a4_2)) = some r := H
        have A50 := Aside0.mk A500
        clear A500
        have HC51 := Aside0.mk H
        clear H
        go_upto_if 90 with (first | ((with_reducible refine gate_callee (f := 21) rfl ?_); refine goesL_ (some 86) rfl rfl Try.func21 (by kernel_rfl) rfl #[.int .u8 a0, .bool a3, .string a2] rfl (by (try simp only [List.map_toArray, List.map_cons, List.map_nil]); first | done | rfl | (simp only [List.length_drop, List.length_take]; rfl)) ?_; (with_reducible refine (pap_Answer.calls a0 a3 a2 t240 t241 t242 t243 _ A50.out).mono ?_); rintro e w52 ⟨rfl, hb⟩; refine ⟨_, rfl, ?_⟩; have n0_ := Aside0.mk (blk_below (g := gb229) (o := .cells #[.int .u8 a4_0, .int .u8 a4_1, .string a4_2] 25 (0, 0)) (by (with_reducible repeat (first | refine blk_drewN ?_ _ | refine blk_drew ?_ | refine blk_alloc ?_ _)); exact BK229.out) hb); have n1_ := Aside0.mk (blk_below (g := gb235) (o := .cells #[.int .u8 t231, .int .u8 t232, .string t233] 25 (0, 0)) (by (with_reducible repeat (first | refine blk_drewN ?_ _ | refine blk_drew ?_ | refine blk_alloc ?_ _)); exact BK235.out) hb); have n2_ := Aside0.mk (below_step (by repeat (first | (with_reducible first | exact HB.out | apply below_alloc | apply pw_below_drewN | apply below_drew1 | refine below_set ?_ GE229.out | refine below_set ?_ GE235.out) | exact HB.out)) hb); clear BK229; clear BK235; clear HB; have BK229 := n0_; have BK235 := n1_; have HB := n2_; clear n0_ n1_ n2_; (try clear hb); (try clear hb2); (try clear hk); (try clear hi)) | ((with_reducible refine gate_dst (N := 16) rfl ?_); refine box_event ?hg (N := 16) ?hd (cs := #[.int .u8 0, .int .u8 0, .string (⟨#[]⟩ : ByteArray)]) (t := 25) ?hr ?_; (case hd => rfl); (case hg => rfl); (case hr => first | (go_simp; done) | (go_simp; rfl)); intro gb244 hg w53 hbox hb; have n0_ := Aside0.mk (blk_below (g := gb229) (o := .cells #[.int .u8 a4_0, .int .u8 a4_1, .string a4_2] 25 (0, 0)) (by (with_reducible repeat (first | refine blk_drewN ?_ _ | refine blk_drew ?_ | refine blk_alloc ?_ _)); exact BK229.out) hb); have n1_ := Aside0.mk (blk_below (g := gb235) (o := .cells #[.int .u8 t231, .int .u8 t232, .string t233] 25 (0, 0)) (by (with_reducible repeat (first | refine blk_drewN ?_ _ | refine blk_drew ?_ | refine blk_alloc ?_ _)); exact BK235.out) hb); have n2_ := Aside0.mk (below_step (by repeat (first | (with_reducible first | exact HB.out | apply below_alloc | apply pw_below_drewN | apply below_drew1 | refine below_set ?_ GE229.out | refine below_set ?_ GE235.out) | exact HB.out)) hb); have n3_ := Aside0.mk (hbox); have n4_ := Aside0.mk ((by rw [hg]; exact (below_size (by repeat (first | (with_reducible first | exact HB.out | apply below_alloc | apply pw_below_drewN | apply below_drew1 | refine below_set ?_ GE229.out | refine below_set ?_ GE235.out) | exact HB.out))) : w.heap.size ≤ gb244)); have n5_ := Aside0.mk ((by rw [hg]; exact (below_size (by repeat (first | (with_reducible first | exact HB.out | apply below_alloc | apply pw_below_drewN | apply below_drew1 | refine below_set ?_ GE229.out | refine below_set ?_ GE235.out) | exact HB.out))) : w.heap.size ≤ gb244)); have n6_ := Aside0.mk ((by rw [hg]; exact Nat.ne_of_lt (blk_lt (g := gb229) (o := .cells #[.int .u8 a4_0, .int .u8 a4_1, .string a4_2] 25 (0, 0)) (by (with_reducible repeat (first | refine blk_drewN ?_ _ | refine blk_drew ?_ | refine blk_alloc ?_ _)); exact BK229.out)) : gb229 ≠ gb244)); have n7_ := Aside0.mk ((by rw [hg]; exact Nat.ne_of_gt (blk_lt (g := gb229) (o := .cells #[.int .u8 a4_0, .int .u8 a4_1, .string a4_2] 25 (0, 0)) (by (with_reducible repeat (first | refine blk_drewN ?_ _ | refine blk_drew ?_ | refine blk_alloc ?_ _)); exact BK229.out)) : gb244 ≠ gb229)); have n8_ := Aside0.mk ((by rw [hg]; exact Nat.ne_of_lt (blk_lt (g := gb235) (o := .cells #[.int .u8 t231, .int .u8 t232, .string t233] 25 (0, 0)) (by (with_reducible repeat (first | refine blk_drewN ?_ _ | refine blk_drew ?_ | refine blk_alloc ?_ _)); exact BK235.out)) : gb235 ≠ gb244)); have n9_ := Aside0.mk ((by rw [hg]; exact Nat.ne_of_gt (blk_lt (g := gb235) (o := .cells #[.int .u8 t231, .int .u8 t232, .string t233] 25 (0, 0)) (by (with_reducible repeat (first | refine blk_drewN ?_ _ | refine blk_drew ?_ | refine blk_alloc ?_ _)); exact BK235.out)) : gb244 ≠ gb235)); clear BK229; clear BK235; clear HB; have BK229 := n0_; have BK235 := n1_; have HB := n2_; have BK244 := n3_; have GW244 := n4_; have GE244 := n5_; have NB229_244 := n6_; have NB244_229 := n7_; have NB235_244 := n8_; have NB244_235 := n9_; clear n0_ n1_ n2_ n3_ n4_ n5_ n6_ n7_ n8_ n9_; clear hb hbox hg; have hnb54 := NB244_229.out; have hnc54 := NB229_244.out; have hnb55 := NB244_235.out; have hnc55 := NB235_244.out; have hcz56_0 : w53.cell? ⟨gb244, 0, none⟩ = some (.int .u8 0) := (blk_cell BK244.out 0).trans rfl; have hcz56_1 : w53.cell? ⟨gb244, 1, none⟩ = some (.int .u8 0) := (blk_cell BK244.out 1).trans rfl; have hcz56_2 : w53.cell? ⟨gb244, 2, none⟩ = some (.string (⟨#[]⟩ : ByteArray)) := (blk_cell BK244.out 2).trans rfl; have hfz56_0 := blk_frozen BK244.out 0; have hfz56_1 := blk_frozen BK244.out 1; have hfz56_2 := blk_frozen BK244.out 2))
        (try simp only [Act.put, List.setIfInBounds_toArray, List.set_cons_zero, List.set_cons_succ])
        go_cut [] (fun wc => ∃ (kq : Nat), Aside0 (halyardlaw18_PapBack.j1 kq a4_0 a4_1 a4_2 = some r) ∧ Aside0 (kq ≤ kj11) ∧ Aside0 (wc.heap[gb229]? = some (.cells #[.int .u8 a4_0, .int .u8 a4_1, .string a4_2] 25 (0, 0))) ∧ Aside0 (wc.heap[gb235]? = some (.cells #[.int .u8 t231, .int .u8 t232, .string t233] 25 (0, 0))) ∧ Aside0 (wc.heap[gb244]? = some (.cells #[.int .u8 t240, .int .u8 t241, .string t242] 25 (0, 0))) ∧ Aside0 (Below w.heap.size w wc))
        case first =>
          have H := HC51.out
          clear HC51
          by_cases c57 : t243 = 0
          · rw [if_pos c57] at H
            have c57b0 : (t243 == 0) = true := beq_iff_eq.mpr c57
            have c57b1 : (t243 != 0) = false := bne_eq_false_iff_eq.mpr c57
            clear c57
            (first | rw [c57b0] | (simp only [i64_w, i32_w]; rw [c57b0]) | skip)
            replace H := Option.bind_eq_some_iff.mp H
            obtain ⟨⟨t245, t246, t247⟩, A580, H⟩ := H
            replace H : (if t247 = 0 then (if (t245 != a3) = true then (some false) else (if t246.toList = a2.toList then (if t241 = a0 then (halyardlaw18_PapBack.j1 kj11 a4_0 a4_1 a4_2) else (some false)) else (some false))) else (some false)) = some r := H
            have A58 := Aside0.mk A580
            clear A580
            by_cases c59 : t247 = 0
            · rw [if_pos c59] at H
              have c59b0 : (t247 == 0) = true := beq_iff_eq.mpr c59
              have c59b1 : (t247 != 0) = false := bne_eq_false_iff_eq.mpr c59
              clear c59
              by_cases c60 : (t245 != a3) = true
              · rw [if_pos c60] at H
                have c60b0 : (t245 != a3) = true := c60
                (try (have c60b1 : decide (t245 = a3) = false := by simpa using c60))
                (try (have c60b2 : (t245 == a3) = false := by simpa using c60))
                (try (have c60b3 : ¬ (t245 = a3) := by simpa using c60))
                clear c60
                obtain rfl := Option.some.inj H
                have hnb61 := NB244_229.out
                have hnc61 := NB229_244.out
                have hnb62 := NB244_235.out
                have hnc62 := NB235_244.out
                have hcz63_0 : w53.cell? ⟨gb244, 0, none⟩ = some (.int .u8 0) := (blk_cell BK244.out 0).trans rfl
                have hcz63_1 : w53.cell? ⟨gb244, 1, none⟩ = some (.int .u8 0) := (blk_cell BK244.out 1).trans rfl
                have hcz63_2 : w53.cell? ⟨gb244, 2, none⟩ = some (.string (⟨#[]⟩ : ByteArray)) := (blk_cell BK244.out 2).trans rfl
                have hfz63_0 := blk_frozen BK244.out 0
                have hfz63_1 := blk_frozen BK244.out 1
                have hfz63_2 := blk_frozen BK244.out 2
                go_wp2_with (first | ((with_reducible refine gate_callee (f := 24) rfl ?_); refine goesL_ (some 93) rfl rfl Try.func24 (by kernel_rfl) rfl #[.agg #[.int .u8 t240, .int .u8 t241, .string t242]] rfl (by (try simp only [List.map_toArray, List.map_cons, List.map_nil]); first | done | rfl | (simp only [List.length_drop, List.length_take]; rfl)) ?_; (with_reducible refine (pap_Answered.calls kj11 t240 t241 t242 t245 t246 t247 _ A58.out).mono ?_); rintro e w64 ⟨rfl, hb⟩; refine ⟨_, rfl, ?_⟩; have n0_ := Aside0.mk (blk_below (g := gb229) (o := .cells #[.int .u8 a4_0, .int .u8 a4_1, .string a4_2] 25 (0, 0)) (by (with_reducible repeat (first | refine blk_drewN ?_ _ | refine blk_drew ?_ | refine blk_alloc ?_ _)); refine blk_far ?_ NB229_244.out _; (with_reducible repeat (first | refine blk_drewN ?_ _ | refine blk_drew ?_ | refine blk_alloc ?_ _)); refine blk_far ?_ NB229_244.out _; (with_reducible repeat (first | refine blk_drewN ?_ _ | refine blk_drew ?_ | refine blk_alloc ?_ _)); refine blk_far ?_ NB229_244.out _; (with_reducible repeat (first | refine blk_drewN ?_ _ | refine blk_drew ?_ | refine blk_alloc ?_ _)); exact BK229.out) hb); have n1_ := Aside0.mk (blk_below (g := gb235) (o := .cells #[.int .u8 t231, .int .u8 t232, .string t233] 25 (0, 0)) (by (with_reducible repeat (first | refine blk_drewN ?_ _ | refine blk_drew ?_ | refine blk_alloc ?_ _)); refine blk_far ?_ NB235_244.out _; (with_reducible repeat (first | refine blk_drewN ?_ _ | refine blk_drew ?_ | refine blk_alloc ?_ _)); refine blk_far ?_ NB235_244.out _; (with_reducible repeat (first | refine blk_drewN ?_ _ | refine blk_drew ?_ | refine blk_alloc ?_ _)); refine blk_far ?_ NB235_244.out _; (with_reducible repeat (first | refine blk_drewN ?_ _ | refine blk_drew ?_ | refine blk_alloc ?_ _)); exact BK235.out) hb); have n2_ := Aside0.mk (blk_below (g := gb244) (o := .cells #[.int .u8 t240, .int .u8 t241, .string t242] 25 (0, 0)) (by (with_reducible repeat (first | refine blk_drewN ?_ _ | refine blk_drew ?_ | refine blk_alloc ?_ _)); refine blk_put (cs := #[.int .u8 t240, .int .u8 t241, .string (⟨#[]⟩ : ByteArray)]) ?_ 2 _ rfl; (with_reducible repeat (first | refine blk_drewN ?_ _ | refine blk_drew ?_ | refine blk_alloc ?_ _)); refine blk_put (cs := #[.int .u8 t240, .int .u8 0, .string (⟨#[]⟩ : ByteArray)]) ?_ 1 _ rfl; (with_reducible repeat (first | refine blk_drewN ?_ _ | refine blk_drew ?_ | refine blk_alloc ?_ _)); refine blk_put (cs := #[.int .u8 0, .int .u8 0, .string (⟨#[]⟩ : ByteArray)]) ?_ 0 _ rfl; (with_reducible repeat (first | refine blk_drewN ?_ _ | refine blk_drew ?_ | refine blk_alloc ?_ _)); exact BK244.out) hb); have n3_ := Aside0.mk (below_step (by repeat (first | (with_reducible first | exact HB.out | apply below_alloc | apply pw_below_drewN | apply below_drew1 | refine below_set ?_ GE229.out | refine below_set ?_ GE235.out | refine below_set ?_ GE244.out) | exact HB.out)) hb); clear BK229; clear BK235; clear BK244; clear HB; have BK229 := n0_; have BK235 := n1_; have BK244 := n2_; have HB := n3_; clear n0_ n1_ n2_ n3_; (try clear hb); (try clear hb2); (try clear hk); (try clear hi)))
                go_ret
                exact ⟨by first | rfl | (simp [errW_none, errW_some] <;> rfl) | (simp [*, errW_none, errW_some] <;> rfl), by repeat (first | (with_reducible first | exact HB.out | apply below_alloc | apply pw_below_drewN | apply below_drew1 | refine below_set ?_ GE229.out | refine below_set ?_ GE235.out | refine below_set ?_ GE244.out) | exact HB.out)⟩
              · rw [if_neg c60] at H
                have c60b0 : (t245 != a3) = false := by simpa using c60
                (try (have c60b1 : decide (t245 = a3) = true := by simpa using c60))
                (try (have c60b2 : (t245 == a3) = true := by simpa using c60))
                clear c60
                by_cases c65 : t246.toList = a2.toList
                · rw [if_pos c65] at H
                  have c65b0 : (t246.toList == a2.toList) = true := beq_iff_eq.mpr c65
                  have c65b1 : (t246.toList != a2.toList) = false := bne_eq_false_iff_eq.mpr c65
                  clear c65
                  by_cases c66 : t241 = a0
                  · rw [if_pos c66] at H
                    have c66b0 : (t241 == a0) = true := beq_iff_eq.mpr c66
                    have c66b1 : (t241 != a0) = false := bne_eq_false_iff_eq.mpr c66
                    clear c66
                    have H' := Aside0.mk H
                    clear H
                    have hnb67 := NB244_229.out
                    have hnc67 := NB229_244.out
                    have hnb68 := NB244_235.out
                    have hnc68 := NB235_244.out
                    have hcz69_0 : w53.cell? ⟨gb244, 0, none⟩ = some (.int .u8 0) := (blk_cell BK244.out 0).trans rfl
                    have hcz69_1 : w53.cell? ⟨gb244, 1, none⟩ = some (.int .u8 0) := (blk_cell BK244.out 1).trans rfl
                    have hcz69_2 : w53.cell? ⟨gb244, 2, none⟩ = some (.string (⟨#[]⟩ : ByteArray)) := (blk_cell BK244.out 2).trans rfl
                    have hfz69_0 := blk_frozen BK244.out 0
                    have hfz69_1 := blk_frozen BK244.out 1
                    have hfz69_2 := blk_frozen BK244.out 2
                    go_wp2_with (first | ((with_reducible refine gate_callee (f := 24) rfl ?_); refine goesL_ (some 93) rfl rfl Try.func24 (by kernel_rfl) rfl #[.agg #[.int .u8 t240, .int .u8 t241, .string t242]] rfl (by (try simp only [List.map_toArray, List.map_cons, List.map_nil]); first | done | rfl | (simp only [List.length_drop, List.length_take]; rfl)) ?_; (with_reducible refine (pap_Answered.calls kj11 t240 t241 t242 t245 t246 t247 _ A58.out).mono ?_); rintro e w70 ⟨rfl, hb⟩; refine ⟨_, rfl, ?_⟩; have n0_ := Aside0.mk (blk_below (g := gb229) (o := .cells #[.int .u8 a4_0, .int .u8 a4_1, .string a4_2] 25 (0, 0)) (by (with_reducible repeat (first | refine blk_drewN ?_ _ | refine blk_drew ?_ | refine blk_alloc ?_ _)); refine blk_far ?_ NB229_244.out _; (with_reducible repeat (first | refine blk_drewN ?_ _ | refine blk_drew ?_ | refine blk_alloc ?_ _)); refine blk_far ?_ NB229_244.out _; (with_reducible repeat (first | refine blk_drewN ?_ _ | refine blk_drew ?_ | refine blk_alloc ?_ _)); refine blk_far ?_ NB229_244.out _; (with_reducible repeat (first | refine blk_drewN ?_ _ | refine blk_drew ?_ | refine blk_alloc ?_ _)); exact BK229.out) hb); have n1_ := Aside0.mk (blk_below (g := gb235) (o := .cells #[.int .u8 t231, .int .u8 t232, .string t233] 25 (0, 0)) (by (with_reducible repeat (first | refine blk_drewN ?_ _ | refine blk_drew ?_ | refine blk_alloc ?_ _)); refine blk_far ?_ NB235_244.out _; (with_reducible repeat (first | refine blk_drewN ?_ _ | refine blk_drew ?_ | refine blk_alloc ?_ _)); refine blk_far ?_ NB235_244.out _; (with_reducible repeat (first | refine blk_drewN ?_ _ | refine blk_drew ?_ | refine blk_alloc ?_ _)); refine blk_far ?_ NB235_244.out _; (with_reducible repeat (first | refine blk_drewN ?_ _ | refine blk_drew ?_ | refine blk_alloc ?_ _)); exact BK235.out) hb); have n2_ := Aside0.mk (blk_below (g := gb244) (o := .cells #[.int .u8 t240, .int .u8 t241, .string t242] 25 (0, 0)) (by (with_reducible repeat (first | refine blk_drewN ?_ _ | refine blk_drew ?_ | refine blk_alloc ?_ _)); refine blk_put (cs := #[.int .u8 t240, .int .u8 t241, .string (⟨#[]⟩ : ByteArray)]) ?_ 2 _ rfl; (with_reducible repeat (first | refine blk_drewN ?_ _ | refine blk_drew ?_ | refine blk_alloc ?_ _)); refine blk_put (cs := #[.int .u8 t240, .int .u8 0, .string (⟨#[]⟩ : ByteArray)]) ?_ 1 _ rfl; (with_reducible repeat (first | refine blk_drewN ?_ _ | refine blk_drew ?_ | refine blk_alloc ?_ _)); refine blk_put (cs := #[.int .u8 0, .int .u8 0, .string (⟨#[]⟩ : ByteArray)]) ?_ 0 _ rfl; (with_reducible repeat (first | refine blk_drewN ?_ _ | refine blk_drew ?_ | refine blk_alloc ?_ _)); exact BK244.out) hb); have n3_ := Aside0.mk (below_step (by repeat (first | (with_reducible first | exact HB.out | apply below_alloc | apply pw_below_drewN | apply below_drew1 | refine below_set ?_ GE229.out | refine below_set ?_ GE235.out | refine below_set ?_ GE244.out) | exact HB.out)) hb); clear BK229; clear BK235; clear BK244; clear HB; have BK229 := n0_; have BK235 := n1_; have BK244 := n2_; have HB := n3_; clear n0_ n1_ n2_ n3_; (try clear hb); (try clear hb2); (try clear hk); (try clear hi); have hcz71_0 : w70.cell? ⟨gb244, 0, none⟩ = some (.int .u8 t240) := (blk_cell BK244.out 0).trans rfl; have hcz71_1 : w70.cell? ⟨gb244, 1, none⟩ = some (.int .u8 t241) := (blk_cell BK244.out 1).trans rfl; have hcz71_2 : w70.cell? ⟨gb244, 2, none⟩ = some (.string t242) := (blk_cell BK244.out 2).trans rfl; have hfz71_0 := blk_frozen BK244.out 0; have hfz71_1 := blk_frozen BK244.out 1; have hfz71_2 := blk_frozen BK244.out 2))
                    go_meet
                    case rel => exact ⟨_, H', ⟨by have := HJ11.out; first | omega | exact Nat.le_refl _⟩, ⟨by (with_reducible repeat (first | refine blk_drewN ?_ _ | refine blk_drew ?_ | refine blk_alloc ?_ _)); exact BK229.out⟩, ⟨by (with_reducible repeat (first | refine blk_drewN ?_ _ | refine blk_drew ?_ | refine blk_alloc ?_ _)); exact BK235.out⟩, ⟨by (with_reducible repeat (first | refine blk_drewN ?_ _ | refine blk_drew ?_ | refine blk_alloc ?_ _)); exact BK244.out⟩, ⟨by repeat (first | (with_reducible first | exact HB.out | apply below_alloc | apply pw_below_drewN | apply below_drew1 | refine below_set ?_ GE229.out | refine below_set ?_ GE235.out | refine below_set ?_ GE244.out) | exact HB.out)⟩⟩
                  · rw [if_neg c66] at H
                    have c66b0 : (t241 == a0) = false := beq_eq_false_iff_ne.mpr c66
                    have c66b1 : (t241 != a0) = true := bne_iff_ne.mpr c66
                    obtain rfl := Option.some.inj H
                    have hnb72 := NB244_229.out
                    have hnc72 := NB229_244.out
                    have hnb73 := NB244_235.out
                    have hnc73 := NB235_244.out
                    have hcz74_0 : w53.cell? ⟨gb244, 0, none⟩ = some (.int .u8 0) := (blk_cell BK244.out 0).trans rfl
                    have hcz74_1 : w53.cell? ⟨gb244, 1, none⟩ = some (.int .u8 0) := (blk_cell BK244.out 1).trans rfl
                    have hcz74_2 : w53.cell? ⟨gb244, 2, none⟩ = some (.string (⟨#[]⟩ : ByteArray)) := (blk_cell BK244.out 2).trans rfl
                    have hfz74_0 := blk_frozen BK244.out 0
                    have hfz74_1 := blk_frozen BK244.out 1
                    have hfz74_2 := blk_frozen BK244.out 2
                    go_wp2_with (first | ((with_reducible refine gate_callee (f := 24) rfl ?_); refine goesL_ (some 93) rfl rfl Try.func24 (by kernel_rfl) rfl #[.agg #[.int .u8 t240, .int .u8 t241, .string t242]] rfl (by (try simp only [List.map_toArray, List.map_cons, List.map_nil]); first | done | rfl | (simp only [List.length_drop, List.length_take]; rfl)) ?_; (with_reducible refine (pap_Answered.calls kj11 t240 t241 t242 t245 t246 t247 _ A58.out).mono ?_); rintro e w75 ⟨rfl, hb⟩; refine ⟨_, rfl, ?_⟩; have n0_ := Aside0.mk (blk_below (g := gb229) (o := .cells #[.int .u8 a4_0, .int .u8 a4_1, .string a4_2] 25 (0, 0)) (by (with_reducible repeat (first | refine blk_drewN ?_ _ | refine blk_drew ?_ | refine blk_alloc ?_ _)); refine blk_far ?_ NB229_244.out _; (with_reducible repeat (first | refine blk_drewN ?_ _ | refine blk_drew ?_ | refine blk_alloc ?_ _)); refine blk_far ?_ NB229_244.out _; (with_reducible repeat (first | refine blk_drewN ?_ _ | refine blk_drew ?_ | refine blk_alloc ?_ _)); refine blk_far ?_ NB229_244.out _; (with_reducible repeat (first | refine blk_drewN ?_ _ | refine blk_drew ?_ | refine blk_alloc ?_ _)); exact BK229.out) hb); have n1_ := Aside0.mk (blk_below (g := gb235) (o := .cells #[.int .u8 t231, .int .u8 t232, .string t233] 25 (0, 0)) (by (with_reducible repeat (first | refine blk_drewN ?_ _ | refine blk_drew ?_ | refine blk_alloc ?_ _)); refine blk_far ?_ NB235_244.out _; (with_reducible repeat (first | refine blk_drewN ?_ _ | refine blk_drew ?_ | refine blk_alloc ?_ _)); refine blk_far ?_ NB235_244.out _; (with_reducible repeat (first | refine blk_drewN ?_ _ | refine blk_drew ?_ | refine blk_alloc ?_ _)); refine blk_far ?_ NB235_244.out _; (with_reducible repeat (first | refine blk_drewN ?_ _ | refine blk_drew ?_ | refine blk_alloc ?_ _)); exact BK235.out) hb); have n2_ := Aside0.mk (blk_below (g := gb244) (o := .cells #[.int .u8 t240, .int .u8 t241, .string t242] 25 (0, 0)) (by (with_reducible repeat (first | refine blk_drewN ?_ _ | refine blk_drew ?_ | refine blk_alloc ?_ _)); refine blk_put (cs := #[.int .u8 t240, .int .u8 t241, .string (⟨#[]⟩ : ByteArray)]) ?_ 2 _ rfl; (with_reducible repeat (first | refine blk_drewN ?_ _ | refine blk_drew ?_ | refine blk_alloc ?_ _)); refine blk_put (cs := #[.int .u8 t240, .int .u8 0, .string (⟨#[]⟩ : ByteArray)]) ?_ 1 _ rfl; (with_reducible repeat (first | refine blk_drewN ?_ _ | refine blk_drew ?_ | refine blk_alloc ?_ _)); refine blk_put (cs := #[.int .u8 0, .int .u8 0, .string (⟨#[]⟩ : ByteArray)]) ?_ 0 _ rfl; (with_reducible repeat (first | refine blk_drewN ?_ _ | refine blk_drew ?_ | refine blk_alloc ?_ _)); exact BK244.out) hb); have n3_ := Aside0.mk (below_step (by repeat (first | (with_reducible first | exact HB.out | apply below_alloc | apply pw_below_drewN | apply below_drew1 | refine below_set ?_ GE229.out | refine below_set ?_ GE235.out | refine below_set ?_ GE244.out) | exact HB.out)) hb); clear BK229; clear BK235; clear BK244; clear HB; have BK229 := n0_; have BK235 := n1_; have BK244 := n2_; have HB := n3_; clear n0_ n1_ n2_ n3_; (try clear hb); (try clear hb2); (try clear hk); (try clear hi); have hcz76_0 : w75.cell? ⟨gb244, 0, none⟩ = some (.int .u8 t240) := (blk_cell BK244.out 0).trans rfl; have hcz76_1 : w75.cell? ⟨gb244, 1, none⟩ = some (.int .u8 t241) := (blk_cell BK244.out 1).trans rfl; have hcz76_2 : w75.cell? ⟨gb244, 2, none⟩ = some (.string t242) := (blk_cell BK244.out 2).trans rfl; have hfz76_0 := blk_frozen BK244.out 0; have hfz76_1 := blk_frozen BK244.out 1; have hfz76_2 := blk_frozen BK244.out 2))
                    go_ret
                    exact ⟨by first | rfl | (simp [errW_none, errW_some] <;> rfl) | (simp [*, errW_none, errW_some] <;> rfl), by repeat (first | (with_reducible first | exact HB.out | apply below_alloc | apply pw_below_drewN | apply below_drew1 | refine below_set ?_ GE229.out | refine below_set ?_ GE235.out | refine below_set ?_ GE244.out) | exact HB.out)⟩
                · rw [if_neg c65] at H
                  have c65b0 : (t246.toList == a2.toList) = false := beq_eq_false_iff_ne.mpr c65
                  have c65b1 : (t246.toList != a2.toList) = true := bne_iff_ne.mpr c65
                  obtain rfl := Option.some.inj H
                  have hnb77 := NB244_229.out
                  have hnc77 := NB229_244.out
                  have hnb78 := NB244_235.out
                  have hnc78 := NB235_244.out
                  have hcz79_0 : w53.cell? ⟨gb244, 0, none⟩ = some (.int .u8 0) := (blk_cell BK244.out 0).trans rfl
                  have hcz79_1 : w53.cell? ⟨gb244, 1, none⟩ = some (.int .u8 0) := (blk_cell BK244.out 1).trans rfl
                  have hcz79_2 : w53.cell? ⟨gb244, 2, none⟩ = some (.string (⟨#[]⟩ : ByteArray)) := (blk_cell BK244.out 2).trans rfl
                  have hfz79_0 := blk_frozen BK244.out 0
                  have hfz79_1 := blk_frozen BK244.out 1
                  have hfz79_2 := blk_frozen BK244.out 2
                  go_wp2_with (first | ((with_reducible refine gate_callee (f := 24) rfl ?_); refine goesL_ (some 93) rfl rfl Try.func24 (by kernel_rfl) rfl #[.agg #[.int .u8 t240, .int .u8 t241, .string t242]] rfl (by (try simp only [List.map_toArray, List.map_cons, List.map_nil]); first | done | rfl | (simp only [List.length_drop, List.length_take]; rfl)) ?_; (with_reducible refine (pap_Answered.calls kj11 t240 t241 t242 t245 t246 t247 _ A58.out).mono ?_); rintro e w80 ⟨rfl, hb⟩; refine ⟨_, rfl, ?_⟩; have n0_ := Aside0.mk (blk_below (g := gb229) (o := .cells #[.int .u8 a4_0, .int .u8 a4_1, .string a4_2] 25 (0, 0)) (by (with_reducible repeat (first | refine blk_drewN ?_ _ | refine blk_drew ?_ | refine blk_alloc ?_ _)); refine blk_far ?_ NB229_244.out _; (with_reducible repeat (first | refine blk_drewN ?_ _ | refine blk_drew ?_ | refine blk_alloc ?_ _)); refine blk_far ?_ NB229_244.out _; (with_reducible repeat (first | refine blk_drewN ?_ _ | refine blk_drew ?_ | refine blk_alloc ?_ _)); refine blk_far ?_ NB229_244.out _; (with_reducible repeat (first | refine blk_drewN ?_ _ | refine blk_drew ?_ | refine blk_alloc ?_ _)); exact BK229.out) hb); have n1_ := Aside0.mk (blk_below (g := gb235) (o := .cells #[.int .u8 t231, .int .u8 t232, .string t233] 25 (0, 0)) (by (with_reducible repeat (first | refine blk_drewN ?_ _ | refine blk_drew ?_ | refine blk_alloc ?_ _)); refine blk_far ?_ NB235_244.out _; (with_reducible repeat (first | refine blk_drewN ?_ _ | refine blk_drew ?_ | refine blk_alloc ?_ _)); refine blk_far ?_ NB235_244.out _; (with_reducible repeat (first | refine blk_drewN ?_ _ | refine blk_drew ?_ | refine blk_alloc ?_ _)); refine blk_far ?_ NB235_244.out _; (with_reducible repeat (first | refine blk_drewN ?_ _ | refine blk_drew ?_ | refine blk_alloc ?_ _)); exact BK235.out) hb); have n2_ := Aside0.mk (blk_below (g := gb244) (o := .cells #[.int .u8 t240, .int .u8 t241, .string t242] 25 (0, 0)) (by (with_reducible repeat (first | refine blk_drewN ?_ _ | refine blk_drew ?_ | refine blk_alloc ?_ _)); refine blk_put (cs := #[.int .u8 t240, .int .u8 t241, .string (⟨#[]⟩ : ByteArray)]) ?_ 2 _ rfl; (with_reducible repeat (first | refine blk_drewN ?_ _ | refine blk_drew ?_ | refine blk_alloc ?_ _)); refine blk_put (cs := #[.int .u8 t240, .int .u8 0, .string (⟨#[]⟩ : ByteArray)]) ?_ 1 _ rfl; (with_reducible repeat (first | refine blk_drewN ?_ _ | refine blk_drew ?_ | refine blk_alloc ?_ _)); refine blk_put (cs := #[.int .u8 0, .int .u8 0, .string (⟨#[]⟩ : ByteArray)]) ?_ 0 _ rfl; (with_reducible repeat (first | refine blk_drewN ?_ _ | refine blk_drew ?_ | refine blk_alloc ?_ _)); exact BK244.out) hb); have n3_ := Aside0.mk (below_step (by repeat (first | (with_reducible first | exact HB.out | apply below_alloc | apply pw_below_drewN | apply below_drew1 | refine below_set ?_ GE229.out | refine below_set ?_ GE235.out | refine below_set ?_ GE244.out) | exact HB.out)) hb); clear BK229; clear BK235; clear BK244; clear HB; have BK229 := n0_; have BK235 := n1_; have BK244 := n2_; have HB := n3_; clear n0_ n1_ n2_ n3_; (try clear hb); (try clear hb2); (try clear hk); (try clear hi)))
                  go_ret
                  exact ⟨by first | rfl | (simp [errW_none, errW_some] <;> rfl) | (simp [*, errW_none, errW_some] <;> rfl), by repeat (first | (with_reducible first | exact HB.out | apply below_alloc | apply pw_below_drewN | apply below_drew1 | refine below_set ?_ GE229.out | refine below_set ?_ GE235.out | refine below_set ?_ GE244.out) | exact HB.out)⟩
            · rw [if_neg c59] at H
              have c59b0 : (t247 == 0) = false := beq_eq_false_iff_ne.mpr c59
              have c59b1 : (t247 != 0) = true := bne_iff_ne.mpr c59
              obtain rfl := Option.some.inj H
              have hnb81 := NB244_229.out
              have hnc81 := NB229_244.out
              have hnb82 := NB244_235.out
              have hnc82 := NB235_244.out
              have hcz83_0 : w53.cell? ⟨gb244, 0, none⟩ = some (.int .u8 0) := (blk_cell BK244.out 0).trans rfl
              have hcz83_1 : w53.cell? ⟨gb244, 1, none⟩ = some (.int .u8 0) := (blk_cell BK244.out 1).trans rfl
              have hcz83_2 : w53.cell? ⟨gb244, 2, none⟩ = some (.string (⟨#[]⟩ : ByteArray)) := (blk_cell BK244.out 2).trans rfl
              have hfz83_0 := blk_frozen BK244.out 0
              have hfz83_1 := blk_frozen BK244.out 1
              have hfz83_2 := blk_frozen BK244.out 2
              go_wp2_with (first | ((with_reducible refine gate_callee (f := 24) rfl ?_); refine goesL_ (some 93) rfl rfl Try.func24 (by kernel_rfl) rfl #[.agg #[.int .u8 t240, .int .u8 t241, .string t242]] rfl (by (try simp only [List.map_toArray, List.map_cons, List.map_nil]); first | done | rfl | (simp only [List.length_drop, List.length_take]; rfl)) ?_; (with_reducible refine (pap_Answered.calls kj11 t240 t241 t242 t245 t246 t247 _ A58.out).mono ?_); rintro e w84 ⟨rfl, hb⟩; refine ⟨_, rfl, ?_⟩; have n0_ := Aside0.mk (blk_below (g := gb229) (o := .cells #[.int .u8 a4_0, .int .u8 a4_1, .string a4_2] 25 (0, 0)) (by (with_reducible repeat (first | refine blk_drewN ?_ _ | refine blk_drew ?_ | refine blk_alloc ?_ _)); refine blk_far ?_ NB229_244.out _; (with_reducible repeat (first | refine blk_drewN ?_ _ | refine blk_drew ?_ | refine blk_alloc ?_ _)); refine blk_far ?_ NB229_244.out _; (with_reducible repeat (first | refine blk_drewN ?_ _ | refine blk_drew ?_ | refine blk_alloc ?_ _)); refine blk_far ?_ NB229_244.out _; (with_reducible repeat (first | refine blk_drewN ?_ _ | refine blk_drew ?_ | refine blk_alloc ?_ _)); exact BK229.out) hb); have n1_ := Aside0.mk (blk_below (g := gb235) (o := .cells #[.int .u8 t231, .int .u8 t232, .string t233] 25 (0, 0)) (by (with_reducible repeat (first | refine blk_drewN ?_ _ | refine blk_drew ?_ | refine blk_alloc ?_ _)); refine blk_far ?_ NB235_244.out _; (with_reducible repeat (first | refine blk_drewN ?_ _ | refine blk_drew ?_ | refine blk_alloc ?_ _)); refine blk_far ?_ NB235_244.out _; (with_reducible repeat (first | refine blk_drewN ?_ _ | refine blk_drew ?_ | refine blk_alloc ?_ _)); refine blk_far ?_ NB235_244.out _; (with_reducible repeat (first | refine blk_drewN ?_ _ | refine blk_drew ?_ | refine blk_alloc ?_ _)); exact BK235.out) hb); have n2_ := Aside0.mk (blk_below (g := gb244) (o := .cells #[.int .u8 t240, .int .u8 t241, .string t242] 25 (0, 0)) (by (with_reducible repeat (first | refine blk_drewN ?_ _ | refine blk_drew ?_ | refine blk_alloc ?_ _)); refine blk_put (cs := #[.int .u8 t240, .int .u8 t241, .string (⟨#[]⟩ : ByteArray)]) ?_ 2 _ rfl; (with_reducible repeat (first | refine blk_drewN ?_ _ | refine blk_drew ?_ | refine blk_alloc ?_ _)); refine blk_put (cs := #[.int .u8 t240, .int .u8 0, .string (⟨#[]⟩ : ByteArray)]) ?_ 1 _ rfl; (with_reducible repeat (first | refine blk_drewN ?_ _ | refine blk_drew ?_ | refine blk_alloc ?_ _)); refine blk_put (cs := #[.int .u8 0, .int .u8 0, .string (⟨#[]⟩ : ByteArray)]) ?_ 0 _ rfl; (with_reducible repeat (first | refine blk_drewN ?_ _ | refine blk_drew ?_ | refine blk_alloc ?_ _)); exact BK244.out) hb); have n3_ := Aside0.mk (below_step (by repeat (first | (with_reducible first | exact HB.out | apply below_alloc | apply pw_below_drewN | apply below_drew1 | refine below_set ?_ GE229.out | refine below_set ?_ GE235.out | refine below_set ?_ GE244.out) | exact HB.out)) hb); clear BK229; clear BK235; clear BK244; clear HB; have BK229 := n0_; have BK235 := n1_; have BK244 := n2_; have HB := n3_; clear n0_ n1_ n2_ n3_; (try clear hb); (try clear hb2); (try clear hk); (try clear hi)))
              go_ret
              exact ⟨by first | rfl | (simp [errW_none, errW_some] <;> rfl) | (simp [*, errW_none, errW_some] <;> rfl), by repeat (first | (with_reducible first | exact HB.out | apply below_alloc | apply pw_below_drewN | apply below_drew1 | refine below_set ?_ GE229.out | refine below_set ?_ GE235.out | refine below_set ?_ GE244.out) | exact HB.out)⟩
          · rw [if_neg c57] at H
            have c57b0 : (t243 == 0) = false := beq_eq_false_iff_ne.mpr c57
            have c57b1 : (t243 != 0) = true := bne_iff_ne.mpr c57
            (first | rw [c57b0] | (simp only [i64_w, i32_w]; rw [c57b0]) | skip)
            have H' := Aside0.mk H
            clear H
            go_wp2
            go_meet
            case rel => exact ⟨_, H', ⟨by have := HJ11.out; first | omega | exact Nat.le_refl _⟩, ⟨by (with_reducible repeat (first | refine blk_drewN ?_ _ | refine blk_drew ?_ | refine blk_alloc ?_ _)); refine blk_far ?_ NB229_244.out _; (with_reducible repeat (first | refine blk_drewN ?_ _ | refine blk_drew ?_ | refine blk_alloc ?_ _)); refine blk_far ?_ NB229_244.out _; (with_reducible repeat (first | refine blk_drewN ?_ _ | refine blk_drew ?_ | refine blk_alloc ?_ _)); refine blk_far ?_ NB229_244.out _; (with_reducible repeat (first | refine blk_drewN ?_ _ | refine blk_drew ?_ | refine blk_alloc ?_ _)); exact BK229.out⟩, ⟨by (with_reducible repeat (first | refine blk_drewN ?_ _ | refine blk_drew ?_ | refine blk_alloc ?_ _)); refine blk_far ?_ NB235_244.out _; (with_reducible repeat (first | refine blk_drewN ?_ _ | refine blk_drew ?_ | refine blk_alloc ?_ _)); refine blk_far ?_ NB235_244.out _; (with_reducible repeat (first | refine blk_drewN ?_ _ | refine blk_drew ?_ | refine blk_alloc ?_ _)); refine blk_far ?_ NB235_244.out _; (with_reducible repeat (first | refine blk_drewN ?_ _ | refine blk_drew ?_ | refine blk_alloc ?_ _)); exact BK235.out⟩, ⟨by (with_reducible repeat (first | refine blk_drewN ?_ _ | refine blk_drew ?_ | refine blk_alloc ?_ _)); refine blk_put (cs := #[.int .u8 t240, .int .u8 t241, .string (⟨#[]⟩ : ByteArray)]) ?_ 2 _ rfl; (with_reducible repeat (first | refine blk_drewN ?_ _ | refine blk_drew ?_ | refine blk_alloc ?_ _)); refine blk_put (cs := #[.int .u8 t240, .int .u8 0, .string (⟨#[]⟩ : ByteArray)]) ?_ 1 _ rfl; (with_reducible repeat (first | refine blk_drewN ?_ _ | refine blk_drew ?_ | refine blk_alloc ?_ _)); refine blk_put (cs := #[.int .u8 0, .int .u8 0, .string (⟨#[]⟩ : ByteArray)]) ?_ 0 _ rfl; (with_reducible repeat (first | refine blk_drewN ?_ _ | refine blk_drew ?_ | refine blk_alloc ?_ _)); exact BK244.out⟩, ⟨by repeat (first | (with_reducible first | exact HB.out | apply below_alloc | apply pw_below_drewN | apply below_drew1 | refine below_set ?_ GE229.out | refine below_set ?_ GE235.out | refine below_set ?_ GE244.out) | exact HB.out)⟩⟩
        case rest =>
          clear HC51
          try clear c1
          try clear c2
          try clear p2
          try clear c3
          try clear c4
          try clear c5
          try clear c6
          try clear c6b0
          try clear p6
          try clear c7
          try clear c8
          try clear c16
          try clear c17
          try clear c19
          try clear c19b0
          try clear c19b1
          try clear c21
          try clear c21b0
          try clear c21b1
          try clear c22
          try clear c22b0
          try clear c22b1
          try clear c23
          try clear c23b0
          try clear c23b1
          try clear c24
          try clear c24b0
          try clear c24b1
          try clear c26
          try clear c27
          try clear c32
          try clear c37
          try clear c41
          try clear c44
          try clear c47
          try clear c54
          try clear c55
          try clear c57
          try clear c57b0
          try clear c57b1
          try clear c59
          try clear c59b0
          try clear c59b1
          try clear c60
          try clear c60b0
          try clear c60b1
          try clear c60b2
          try clear c61
          try clear c62
          try clear p64
          try clear c65
          try clear c65b0
          try clear c65b1
          try clear c66
          try clear c66b0
          try clear c66b1
          try clear c67
          try clear c68
          try clear c72
          try clear c73
          try clear c77
          try clear c78
          try clear c81
          try clear c82
          try clear hcz14_0
          try clear hcz14_1
          try clear hcz14_2
          try clear hcz18_0
          try clear hcz18_1
          try clear hcz18_2
          try clear hcz28_0
          try clear hcz28_1
          try clear hcz28_2
          try clear hcz30_0
          try clear hcz30_1
          try clear hcz30_2
          try clear hcz33_0
          try clear hcz33_1
          try clear hcz33_2
          try clear hcz35_0
          try clear hcz35_1
          try clear hcz35_2
          try clear hcz38_0
          try clear hcz38_1
          try clear hcz38_2
          try clear hcz40_0
          try clear hcz40_1
          try clear hcz40_2
          try clear hcz42_0
          try clear hcz42_1
          try clear hcz42_2
          try clear hcz45_0
          try clear hcz45_1
          try clear hcz45_2
          try clear hcz48_0
          try clear hcz48_1
          try clear hcz48_2
          try clear hcz56_0
          try clear hcz56_1
          try clear hcz56_2
          try clear hcz63_0
          try clear hcz63_1
          try clear hcz63_2
          try clear hcz69_0
          try clear hcz69_1
          try clear hcz69_2
          try clear hcz71_0
          try clear hcz71_1
          try clear hcz71_2
          try clear hcz74_0
          try clear hcz74_1
          try clear hcz74_2
          try clear hcz76_0
          try clear hcz76_1
          try clear hcz76_2
          try clear hcz79_0
          try clear hcz79_1
          try clear hcz79_2
          try clear hcz83_0
          try clear hcz83_1
          try clear hcz83_2
          try clear hcz9_0
          try clear hcz9_1
          try clear hcz9_2
          try clear hfz14_0
          try clear hfz14_1
          try clear hfz14_2
          try clear hfz18_0
          try clear hfz18_1
          try clear hfz18_2
          try clear hfz28_0
          try clear hfz28_1
          try clear hfz28_2
          try clear hfz30_0
          try clear hfz30_1
          try clear hfz30_2
          try clear hfz33_0
          try clear hfz33_1
          try clear hfz33_2
          try clear hfz35_0
          try clear hfz35_1
          try clear hfz35_2
          try clear hfz38_0
          try clear hfz38_1
          try clear hfz38_2
          try clear hfz40_0
          try clear hfz40_1
          try clear hfz40_2
          try clear hfz42_0
          try clear hfz42_1
          try clear hfz42_2
          try clear hfz45_0
          try clear hfz45_1
          try clear hfz45_2
          try clear hfz48_0
          try clear hfz48_1
          try clear hfz48_2
          try clear hfz56_0
          try clear hfz56_1
          try clear hfz56_2
          try clear hfz63_0
          try clear hfz63_1
          try clear hfz63_2
          try clear hfz69_0
          try clear hfz69_1
          try clear hfz69_2
          try clear hfz71_0
          try clear hfz71_1
          try clear hfz71_2
          try clear hfz74_0
          try clear hfz74_1
          try clear hfz74_2
          try clear hfz76_0
          try clear hfz76_1
          try clear hfz76_2
          try clear hfz79_0
          try clear hfz79_1
          try clear hfz79_2
          try clear hfz83_0
          try clear hfz83_1
          try clear hfz83_2
          try clear hfz9_0
          try clear hfz9_1
          try clear hfz9_2
          try clear p2
          try clear p6
          obtain ⟨kq, HA, HJ50, BK229, BK235, BK244, HB⟩ := hcut
          cases kq with
          | zero => exact absurd HA.out (by simp [halyardlaw18_PapBack.j1])
          | succ kj50 =>
            have H := HA.out
            clear HA
            simp only [halyardlaw18_PapBack.j1] at H
            replace H := Option.bind_eq_some_iff.mp H
            obtain ⟨⟨t248, t249, t250⟩, A850, H⟩ := H
            replace H : (if t250 = 0 then ((pap_Request.f a4_1 t248 t249).bind fun bt251 => (if bt251.2.2.2 = 0 then (if (!(bt251.1 == a4_0) || (!(bt251.2.1 == a4_1) || (!(bt251.2.2.1.toList == a4_2.toList)))) = true then (some false) else (halyardlaw18_PapBack.j2 kj50 t248 t249 t250 a4_0 a4_1 a4_2)) else (some false))) else (halyardlaw18_PapBack.j2 kj50 t248 t249 t250 a4_0 a4_1 a4_2)) = some r := H
            have A85 := Aside0.mk A850
            clear A850
            have HC86 := Aside0.mk H
            clear H
            have hnb87 := NB229_235.out
            have hnc87 := NB235_229.out
            have hnb88 := NB229_244.out
            have hnc88 := NB244_229.out
            have hcz89_0 : wc.cell? ⟨gb229, 0, none⟩ = some (.int .u8 a4_0) := (blk_cell BK229.out 0).trans rfl
            have hcz89_1 : wc.cell? ⟨gb229, 1, none⟩ = some (.int .u8 a4_1) := (blk_cell BK229.out 1).trans rfl
            have hcz89_2 : wc.cell? ⟨gb229, 2, none⟩ = some (.string a4_2) := (blk_cell BK229.out 2).trans rfl
            have hfz89_0 := blk_frozen BK229.out 0
            have hfz89_1 := blk_frozen BK229.out 1
            have hfz89_2 := blk_frozen BK229.out 2
            go_upto_if 122 with (first | ((with_reducible refine gate_callee (f := 19) rfl ?_); refine goesL_ (some 117) rfl rfl Try.func19 (by kernel_rfl) rfl #[.agg #[.int .u8 a4_0, .int .u8 a4_1, .string a4_2]] rfl (by (try simp only [List.map_toArray, List.map_cons, List.map_nil]); first | done | rfl | (simp only [List.length_drop, List.length_take]; rfl)) ?_; (with_reducible refine (pap_Asked.calls a4_0 a4_1 a4_2 t248 t249 t250 _ A85.out).mono ?_); rintro e w90 ⟨rfl, hb⟩; refine ⟨_, rfl, ?_⟩; have n0_ := Aside0.mk (blk_below (g := gb229) (o := .cells #[.int .u8 a4_0, .int .u8 a4_1, .string a4_2] 25 (0, 0)) (by (with_reducible repeat (first | refine blk_drewN ?_ _ | refine blk_drew ?_ | refine blk_alloc ?_ _)); exact BK229.out) hb); have n1_ := Aside0.mk (blk_below (g := gb235) (o := .cells #[.int .u8 t231, .int .u8 t232, .string t233] 25 (0, 0)) (by (with_reducible repeat (first | refine blk_drewN ?_ _ | refine blk_drew ?_ | refine blk_alloc ?_ _)); exact BK235.out) hb); have n2_ := Aside0.mk (blk_below (g := gb244) (o := .cells #[.int .u8 t240, .int .u8 t241, .string t242] 25 (0, 0)) (by (with_reducible repeat (first | refine blk_drewN ?_ _ | refine blk_drew ?_ | refine blk_alloc ?_ _)); exact BK244.out) hb); have n3_ := Aside0.mk (below_step (by repeat (first | (with_reducible first | exact HB.out | apply below_alloc | apply pw_below_drewN | apply below_drew1 | refine below_set ?_ GE229.out | refine below_set ?_ GE235.out | refine below_set ?_ GE244.out) | exact HB.out)) hb); clear BK229; clear BK235; clear BK244; clear HB; have BK229 := n0_; have BK235 := n1_; have BK244 := n2_; have HB := n3_; clear n0_ n1_ n2_ n3_; (try clear hb); (try clear hb2); (try clear hk); (try clear hi)))
            (try simp only [Act.put, List.setIfInBounds_toArray, List.set_cons_zero, List.set_cons_succ])
            go_cut [] (fun wc => ∃ (kq : Nat), Aside0 (halyardlaw18_PapBack.j2 kq t248 t249 t250 a4_0 a4_1 a4_2 = some r) ∧ Aside0 (kq ≤ kj50) ∧ Aside0 (wc.heap[gb229]? = some (.cells #[.int .u8 a4_0, .int .u8 a4_1, .string a4_2] 25 (0, 0))) ∧ Aside0 (wc.heap[gb235]? = some (.cells #[.int .u8 t231, .int .u8 t232, .string t233] 25 (0, 0))) ∧ Aside0 (wc.heap[gb244]? = some (.cells #[.int .u8 t240, .int .u8 t241, .string t242] 25 (0, 0))) ∧ Aside0 (Below w.heap.size w wc))
            case first =>
              have H := HC86.out
              clear HC86
              by_cases c91 : t250 = 0
              · rw [if_pos c91] at H
                have c91b0 : (t250 == 0) = true := beq_iff_eq.mpr c91
                have c91b1 : (t250 != 0) = false := bne_eq_false_iff_eq.mpr c91
                clear c91
                (first | rw [c91b0] | (simp only [i64_w, i32_w]; rw [c91b0]) | skip)
                replace H := Option.bind_eq_some_iff.mp H
                obtain ⟨⟨t251, t252, t253, t254⟩, A920, H⟩ := H
                replace H : (if t254 = 0 then (if (!(t251 == a4_0) || (!(t252 == a4_1) || (!(t253.toList == a4_2.toList)))) = true then (some false) else (halyardlaw18_PapBack.j2 kj50 t248 t249 t250 a4_0 a4_1 a4_2)) else (some false)) = some r := H
                have A92 := Aside0.mk A920
                clear A920
                by_cases c93 : t254 = 0
                · rw [if_pos c93] at H
                  have c93b0 : (t254 == 0) = true := beq_iff_eq.mpr c93
                  have c93b1 : (t254 != 0) = false := bne_eq_false_iff_eq.mpr c93
                  clear c93
                  by_cases c94 : (!(t251 == a4_0) || (!(t252 == a4_1) || (!(t253.toList == a4_2.toList)))) = true
                  · rw [if_pos c94] at H
                    have c94b0 : (!(t251 == a4_0) || (!(t252 == a4_1) || (!(t253.toList == a4_2.toList)))) = true := c94
                    clear c94
                    obtain rfl := Option.some.inj H
                    have hnb95 := NB229_235.out
                    have hnc95 := NB235_229.out
                    have hnb96 := NB229_244.out
                    have hnc96 := NB244_229.out
                    have hcz97_0 : w90.cell? ⟨gb229, 0, none⟩ = some (.int .u8 a4_0) := (blk_cell BK229.out 0).trans rfl
                    have hcz97_1 : w90.cell? ⟨gb229, 1, none⟩ = some (.int .u8 a4_1) := (blk_cell BK229.out 1).trans rfl
                    have hcz97_2 : w90.cell? ⟨gb229, 2, none⟩ = some (.string a4_2) := (blk_cell BK229.out 2).trans rfl
                    have hfz97_0 := blk_frozen BK229.out 0
                    have hfz97_1 := blk_frozen BK229.out 1
                    have hfz97_2 := blk_frozen BK229.out 2
                    go_wp2_with (first | ((with_reducible refine gate_callee (f := 17) rfl ?_); refine goesL_ (some 128) rfl rfl Try.func17 (by kernel_rfl) rfl #[.int .u8 a4_1, .string t248, .string t249] rfl (by (try simp only [List.map_toArray, List.map_cons, List.map_nil]); first | done | rfl | (simp only [List.length_drop, List.length_take]; rfl)) ?_; (with_reducible refine (pap_Request.calls a4_1 t248 t249 t251 t252 t253 t254 _ A92.out).mono ?_); rintro e w98 ⟨rfl, hb⟩; refine ⟨_, rfl, ?_⟩; have n0_ := Aside0.mk (blk_below (g := gb229) (o := .cells #[.int .u8 a4_0, .int .u8 a4_1, .string a4_2] 25 (0, 0)) (by (with_reducible repeat (first | refine blk_drewN ?_ _ | refine blk_drew ?_ | refine blk_alloc ?_ _)); exact BK229.out) hb); have n1_ := Aside0.mk (blk_below (g := gb235) (o := .cells #[.int .u8 t231, .int .u8 t232, .string t233] 25 (0, 0)) (by (with_reducible repeat (first | refine blk_drewN ?_ _ | refine blk_drew ?_ | refine blk_alloc ?_ _)); exact BK235.out) hb); have n2_ := Aside0.mk (blk_below (g := gb244) (o := .cells #[.int .u8 t240, .int .u8 t241, .string t242] 25 (0, 0)) (by (with_reducible repeat (first | refine blk_drewN ?_ _ | refine blk_drew ?_ | refine blk_alloc ?_ _)); exact BK244.out) hb); have n3_ := Aside0.mk (below_step (by repeat (first | (with_reducible first | exact HB.out | apply below_alloc | apply pw_below_drewN | apply below_drew1 | refine below_set ?_ GE229.out | refine below_set ?_ GE235.out | refine below_set ?_ GE244.out) | exact HB.out)) hb); clear BK229; clear BK235; clear BK244; clear HB; have BK229 := n0_; have BK235 := n1_; have BK244 := n2_; have HB := n3_; clear n0_ n1_ n2_ n3_; (try clear hb); (try clear hb2); (try clear hk); (try clear hi)) | ((with_reducible refine gate_dst (N := 24) rfl ?_); refine box_event ?hg (N := 24) ?hd (cs := #[.int .u8 0, .int .u8 0, .string (⟨#[]⟩ : ByteArray)]) (t := 25) ?hr ?_; (case hd => rfl); (case hg => rfl); (case hr => first | (go_simp; done) | (go_simp; rfl)); intro gb255 hg w99 hbox hb; have n0_ := Aside0.mk (blk_below (g := gb229) (o := .cells #[.int .u8 a4_0, .int .u8 a4_1, .string a4_2] 25 (0, 0)) (by (with_reducible repeat (first | refine blk_drewN ?_ _ | refine blk_drew ?_ | refine blk_alloc ?_ _)); exact BK229.out) hb); have n1_ := Aside0.mk (blk_below (g := gb235) (o := .cells #[.int .u8 t231, .int .u8 t232, .string t233] 25 (0, 0)) (by (with_reducible repeat (first | refine blk_drewN ?_ _ | refine blk_drew ?_ | refine blk_alloc ?_ _)); exact BK235.out) hb); have n2_ := Aside0.mk (blk_below (g := gb244) (o := .cells #[.int .u8 t240, .int .u8 t241, .string t242] 25 (0, 0)) (by (with_reducible repeat (first | refine blk_drewN ?_ _ | refine blk_drew ?_ | refine blk_alloc ?_ _)); exact BK244.out) hb); have n3_ := Aside0.mk (below_step (by repeat (first | (with_reducible first | exact HB.out | apply below_alloc | apply pw_below_drewN | apply below_drew1 | refine below_set ?_ GE229.out | refine below_set ?_ GE235.out | refine below_set ?_ GE244.out) | exact HB.out)) hb); have n4_ := Aside0.mk (hbox); have n5_ := Aside0.mk ((by rw [hg]; exact (below_size (by repeat (first | (with_reducible first | exact HB.out | apply below_alloc | apply pw_below_drewN | apply below_drew1 | refine below_set ?_ GE229.out | refine below_set ?_ GE235.out | refine below_set ?_ GE244.out) | exact HB.out))) : w.heap.size ≤ gb255)); have n6_ := Aside0.mk ((by rw [hg]; exact (below_size (by repeat (first | (with_reducible first | exact HB.out | apply below_alloc | apply pw_below_drewN | apply below_drew1 | refine below_set ?_ GE229.out | refine below_set ?_ GE235.out | refine below_set ?_ GE244.out) | exact HB.out))) : w.heap.size ≤ gb255)); have n7_ := Aside0.mk ((by rw [hg]; exact Nat.ne_of_lt (blk_lt (g := gb229) (o := .cells #[.int .u8 a4_0, .int .u8 a4_1, .string a4_2] 25 (0, 0)) (by (with_reducible repeat (first | refine blk_drewN ?_ _ | refine blk_drew ?_ | refine blk_alloc ?_ _)); exact BK229.out)) : gb229 ≠ gb255)); have n8_ := Aside0.mk ((by rw [hg]; exact Nat.ne_of_gt (blk_lt (g := gb229) (o := .cells #[.int .u8 a4_0, .int .u8 a4_1, .string a4_2] 25 (0, 0)) (by (with_reducible repeat (first | refine blk_drewN ?_ _ | refine blk_drew ?_ | refine blk_alloc ?_ _)); exact BK229.out)) : gb255 ≠ gb229)); have n9_ := Aside0.mk ((by rw [hg]; exact Nat.ne_of_lt (blk_lt (g := gb235) (o := .cells #[.int .u8 t231, .int .u8 t232, .string t233] 25 (0, 0)) (by (with_reducible repeat (first | refine blk_drewN ?_ _ | refine blk_drew ?_ | refine blk_alloc ?_ _)); exact BK235.out)) : gb235 ≠ gb255)); have n10_ := Aside0.mk ((by rw [hg]; exact Nat.ne_of_gt (blk_lt (g := gb235) (o := .cells #[.int .u8 t231, .int .u8 t232, .string t233] 25 (0, 0)) (by (with_reducible repeat (first | refine blk_drewN ?_ _ | refine blk_drew ?_ | refine blk_alloc ?_ _)); exact BK235.out)) : gb255 ≠ gb235)); have n11_ := Aside0.mk ((by rw [hg]; exact Nat.ne_of_lt (blk_lt (g := gb244) (o := .cells #[.int .u8 t240, .int .u8 t241, .string t242] 25 (0, 0)) (by (with_reducible repeat (first | refine blk_drewN ?_ _ | refine blk_drew ?_ | refine blk_alloc ?_ _)); exact BK244.out)) : gb244 ≠ gb255)); have n12_ := Aside0.mk ((by rw [hg]; exact Nat.ne_of_gt (blk_lt (g := gb244) (o := .cells #[.int .u8 t240, .int .u8 t241, .string t242] 25 (0, 0)) (by (with_reducible repeat (first | refine blk_drewN ?_ _ | refine blk_drew ?_ | refine blk_alloc ?_ _)); exact BK244.out)) : gb255 ≠ gb244)); clear BK229; clear BK235; clear BK244; clear HB; have BK229 := n0_; have BK235 := n1_; have BK244 := n2_; have HB := n3_; have BK255 := n4_; have GW255 := n5_; have GE255 := n6_; have NB229_255 := n7_; have NB255_229 := n8_; have NB235_255 := n9_; have NB255_235 := n10_; have NB244_255 := n11_; have NB255_244 := n12_; clear n0_ n1_ n2_ n3_ n4_ n5_ n6_ n7_ n8_ n9_ n10_ n11_ n12_; clear hb hbox hg; have hnb100 := NB255_229.out; have hnc100 := NB229_255.out; have hnb101 := NB255_235.out; have hnc101 := NB235_255.out; have hnb102 := NB255_244.out; have hnc102 := NB244_255.out; have hcz103_0 : w99.cell? ⟨gb255, 0, none⟩ = some (.int .u8 0) := (blk_cell BK255.out 0).trans rfl; have hcz103_1 : w99.cell? ⟨gb255, 1, none⟩ = some (.int .u8 0) := (blk_cell BK255.out 1).trans rfl; have hcz103_2 : w99.cell? ⟨gb255, 2, none⟩ = some (.string (⟨#[]⟩ : ByteArray)) := (blk_cell BK255.out 2).trans rfl; have hfz103_0 := blk_frozen BK255.out 0; have hfz103_1 := blk_frozen BK255.out 1; have hfz103_2 := blk_frozen BK255.out 2; have hcz104_0 : w99.cell? ⟨gb229, 0, none⟩ = some (.int .u8 a4_0) := (blk_cell BK229.out 0).trans rfl; have hcz104_1 : w99.cell? ⟨gb229, 1, none⟩ = some (.int .u8 a4_1) := (blk_cell BK229.out 1).trans rfl; have hcz104_2 : w99.cell? ⟨gb229, 2, none⟩ = some (.string a4_2) := (blk_cell BK229.out 2).trans rfl; have hfz104_0 := blk_frozen BK229.out 0; have hfz104_1 := blk_frozen BK229.out 1; have hfz104_2 := blk_frozen BK229.out 2))
                    go_ret
                    exact ⟨by first | rfl | (simp [errW_none, errW_some] <;> rfl) | (simp [*, errW_none, errW_some] <;> rfl), by repeat (first | (with_reducible first | exact HB.out | apply below_alloc | apply pw_below_drewN | apply below_drew1 | refine below_set ?_ GE229.out | refine below_set ?_ GE235.out | refine below_set ?_ GE244.out | refine below_set ?_ GE255.out) | exact HB.out)⟩
                  · rw [if_neg c94] at H
                    have c94b0 : (!(t251 == a4_0) || (!(t252 == a4_1) || (!(t253.toList == a4_2.toList)))) = false := by simpa using c94
                    clear c94
                    have H' := Aside0.mk H
                    clear H
                    have hnb105 := NB229_235.out
                    have hnc105 := NB235_229.out
                    have hnb106 := NB229_244.out
                    have hnc106 := NB244_229.out
                    have hcz107_0 : w90.cell? ⟨gb229, 0, none⟩ = some (.int .u8 a4_0) := (blk_cell BK229.out 0).trans rfl
                    have hcz107_1 : w90.cell? ⟨gb229, 1, none⟩ = some (.int .u8 a4_1) := (blk_cell BK229.out 1).trans rfl
                    have hcz107_2 : w90.cell? ⟨gb229, 2, none⟩ = some (.string a4_2) := (blk_cell BK229.out 2).trans rfl
                    have hfz107_0 := blk_frozen BK229.out 0
                    have hfz107_1 := blk_frozen BK229.out 1
                    have hfz107_2 := blk_frozen BK229.out 2
                    go_wp2_with (first | ((with_reducible refine gate_callee (f := 17) rfl ?_); refine goesL_ (some 128) rfl rfl Try.func17 (by kernel_rfl) rfl #[.int .u8 a4_1, .string t248, .string t249] rfl (by (try simp only [List.map_toArray, List.map_cons, List.map_nil]); first | done | rfl | (simp only [List.length_drop, List.length_take]; rfl)) ?_; (with_reducible refine (pap_Request.calls a4_1 t248 t249 t251 t252 t253 t254 _ A92.out).mono ?_); rintro e w108 ⟨rfl, hb⟩; refine ⟨_, rfl, ?_⟩; have n0_ := Aside0.mk (blk_below (g := gb229) (o := .cells #[.int .u8 a4_0, .int .u8 a4_1, .string a4_2] 25 (0, 0)) (by (with_reducible repeat (first | refine blk_drewN ?_ _ | refine blk_drew ?_ | refine blk_alloc ?_ _)); exact BK229.out) hb); have n1_ := Aside0.mk (blk_below (g := gb235) (o := .cells #[.int .u8 t231, .int .u8 t232, .string t233] 25 (0, 0)) (by (with_reducible repeat (first | refine blk_drewN ?_ _ | refine blk_drew ?_ | refine blk_alloc ?_ _)); exact BK235.out) hb); have n2_ := Aside0.mk (blk_below (g := gb244) (o := .cells #[.int .u8 t240, .int .u8 t241, .string t242] 25 (0, 0)) (by (with_reducible repeat (first | refine blk_drewN ?_ _ | refine blk_drew ?_ | refine blk_alloc ?_ _)); exact BK244.out) hb); have n3_ := Aside0.mk (below_step (by repeat (first | (with_reducible first | exact HB.out | apply below_alloc | apply pw_below_drewN | apply below_drew1 | refine below_set ?_ GE229.out | refine below_set ?_ GE235.out | refine below_set ?_ GE244.out) | exact HB.out)) hb); clear BK229; clear BK235; clear BK244; clear HB; have BK229 := n0_; have BK235 := n1_; have BK244 := n2_; have HB := n3_; clear n0_ n1_ n2_ n3_; (try clear hb); (try clear hb2); (try clear hk); (try clear hi)) | ((with_reducible refine gate_dst (N := 24) rfl ?_); refine box_event ?hg (N := 24) ?hd (cs := #[.int .u8 0, .int .u8 0, .string (⟨#[]⟩ : ByteArray)]) (t := 25) ?hr ?_; (case hd => rfl); (case hg => rfl); (case hr => first | (go_simp; done) | (go_simp; rfl)); intro gb255 hg w109 hbox hb; have n0_ := Aside0.mk (blk_below (g := gb229) (o := .cells #[.int .u8 a4_0, .int .u8 a4_1, .string a4_2] 25 (0, 0)) (by (with_reducible repeat (first | refine blk_drewN ?_ _ | refine blk_drew ?_ | refine blk_alloc ?_ _)); exact BK229.out) hb); have n1_ := Aside0.mk (blk_below (g := gb235) (o := .cells #[.int .u8 t231, .int .u8 t232, .string t233] 25 (0, 0)) (by (with_reducible repeat (first | refine blk_drewN ?_ _ | refine blk_drew ?_ | refine blk_alloc ?_ _)); exact BK235.out) hb); have n2_ := Aside0.mk (blk_below (g := gb244) (o := .cells #[.int .u8 t240, .int .u8 t241, .string t242] 25 (0, 0)) (by (with_reducible repeat (first | refine blk_drewN ?_ _ | refine blk_drew ?_ | refine blk_alloc ?_ _)); exact BK244.out) hb); have n3_ := Aside0.mk (below_step (by repeat (first | (with_reducible first | exact HB.out | apply below_alloc | apply pw_below_drewN | apply below_drew1 | refine below_set ?_ GE229.out | refine below_set ?_ GE235.out | refine below_set ?_ GE244.out) | exact HB.out)) hb); have n4_ := Aside0.mk (hbox); have n5_ := Aside0.mk ((by rw [hg]; exact (below_size (by repeat (first | (with_reducible first | exact HB.out | apply below_alloc | apply pw_below_drewN | apply below_drew1 | refine below_set ?_ GE229.out | refine below_set ?_ GE235.out | refine below_set ?_ GE244.out) | exact HB.out))) : w.heap.size ≤ gb255)); have n6_ := Aside0.mk ((by rw [hg]; exact (below_size (by repeat (first | (with_reducible first | exact HB.out | apply below_alloc | apply pw_below_drewN | apply below_drew1 | refine below_set ?_ GE229.out | refine below_set ?_ GE235.out | refine below_set ?_ GE244.out) | exact HB.out))) : w.heap.size ≤ gb255)); have n7_ := Aside0.mk ((by rw [hg]; exact Nat.ne_of_lt (blk_lt (g := gb229) (o := .cells #[.int .u8 a4_0, .int .u8 a4_1, .string a4_2] 25 (0, 0)) (by (with_reducible repeat (first | refine blk_drewN ?_ _ | refine blk_drew ?_ | refine blk_alloc ?_ _)); exact BK229.out)) : gb229 ≠ gb255)); have n8_ := Aside0.mk ((by rw [hg]; exact Nat.ne_of_gt (blk_lt (g := gb229) (o := .cells #[.int .u8 a4_0, .int .u8 a4_1, .string a4_2] 25 (0, 0)) (by (with_reducible repeat (first | refine blk_drewN ?_ _ | refine blk_drew ?_ | refine blk_alloc ?_ _)); exact BK229.out)) : gb255 ≠ gb229)); have n9_ := Aside0.mk ((by rw [hg]; exact Nat.ne_of_lt (blk_lt (g := gb235) (o := .cells #[.int .u8 t231, .int .u8 t232, .string t233] 25 (0, 0)) (by (with_reducible repeat (first | refine blk_drewN ?_ _ | refine blk_drew ?_ | refine blk_alloc ?_ _)); exact BK235.out)) : gb235 ≠ gb255)); have n10_ := Aside0.mk ((by rw [hg]; exact Nat.ne_of_gt (blk_lt (g := gb235) (o := .cells #[.int .u8 t231, .int .u8 t232, .string t233] 25 (0, 0)) (by (with_reducible repeat (first | refine blk_drewN ?_ _ | refine blk_drew ?_ | refine blk_alloc ?_ _)); exact BK235.out)) : gb255 ≠ gb235)); have n11_ := Aside0.mk ((by rw [hg]; exact Nat.ne_of_lt (blk_lt (g := gb244) (o := .cells #[.int .u8 t240, .int .u8 t241, .string t242] 25 (0, 0)) (by (with_reducible repeat (first | refine blk_drewN ?_ _ | refine blk_drew ?_ | refine blk_alloc ?_ _)); exact BK244.out)) : gb244 ≠ gb255)); have n12_ := Aside0.mk ((by rw [hg]; exact Nat.ne_of_gt (blk_lt (g := gb244) (o := .cells #[.int .u8 t240, .int .u8 t241, .string t242] 25 (0, 0)) (by (with_reducible repeat (first | refine blk_drewN ?_ _ | refine blk_drew ?_ | refine blk_alloc ?_ _)); exact BK244.out)) : gb255 ≠ gb244)); clear BK229; clear BK235; clear BK244; clear HB; have BK229 := n0_; have BK235 := n1_; have BK244 := n2_; have HB := n3_; have BK255 := n4_; have GW255 := n5_; have GE255 := n6_; have NB229_255 := n7_; have NB255_229 := n8_; have NB235_255 := n9_; have NB255_235 := n10_; have NB244_255 := n11_; have NB255_244 := n12_; clear n0_ n1_ n2_ n3_ n4_ n5_ n6_ n7_ n8_ n9_ n10_ n11_ n12_; clear hb hbox hg; have hnb110 := NB255_229.out; have hnc110 := NB229_255.out; have hnb111 := NB255_235.out; have hnc111 := NB235_255.out; have hnb112 := NB255_244.out; have hnc112 := NB244_255.out; have hcz113_0 : w109.cell? ⟨gb255, 0, none⟩ = some (.int .u8 0) := (blk_cell BK255.out 0).trans rfl; have hcz113_1 : w109.cell? ⟨gb255, 1, none⟩ = some (.int .u8 0) := (blk_cell BK255.out 1).trans rfl; have hcz113_2 : w109.cell? ⟨gb255, 2, none⟩ = some (.string (⟨#[]⟩ : ByteArray)) := (blk_cell BK255.out 2).trans rfl; have hfz113_0 := blk_frozen BK255.out 0; have hfz113_1 := blk_frozen BK255.out 1; have hfz113_2 := blk_frozen BK255.out 2; have hcz114_0 : w109.cell? ⟨gb229, 0, none⟩ = some (.int .u8 a4_0) := (blk_cell BK229.out 0).trans rfl; have hcz114_1 : w109.cell? ⟨gb229, 1, none⟩ = some (.int .u8 a4_1) := (blk_cell BK229.out 1).trans rfl; have hcz114_2 : w109.cell? ⟨gb229, 2, none⟩ = some (.string a4_2) := (blk_cell BK229.out 2).trans rfl; have hfz114_0 := blk_frozen BK229.out 0; have hfz114_1 := blk_frozen BK229.out 1; have hfz114_2 := blk_frozen BK229.out 2))
                    go_meet
                    case rel => exact ⟨_, H', ⟨by have := HJ11.out; have := HJ50.out; first | omega | exact Nat.le_refl _⟩, ⟨by (with_reducible repeat (first | refine blk_drewN ?_ _ | refine blk_drew ?_ | refine blk_alloc ?_ _)); refine blk_far ?_ NB229_255.out _; (with_reducible repeat (first | refine blk_drewN ?_ _ | refine blk_drew ?_ | refine blk_alloc ?_ _)); refine blk_far ?_ NB229_255.out _; (with_reducible repeat (first | refine blk_drewN ?_ _ | refine blk_drew ?_ | refine blk_alloc ?_ _)); refine blk_far ?_ NB229_255.out _; (with_reducible repeat (first | refine blk_drewN ?_ _ | refine blk_drew ?_ | refine blk_alloc ?_ _)); exact BK229.out⟩, ⟨by (with_reducible repeat (first | refine blk_drewN ?_ _ | refine blk_drew ?_ | refine blk_alloc ?_ _)); refine blk_far ?_ NB235_255.out _; (with_reducible repeat (first | refine blk_drewN ?_ _ | refine blk_drew ?_ | refine blk_alloc ?_ _)); refine blk_far ?_ NB235_255.out _; (with_reducible repeat (first | refine blk_drewN ?_ _ | refine blk_drew ?_ | refine blk_alloc ?_ _)); refine blk_far ?_ NB235_255.out _; (with_reducible repeat (first | refine blk_drewN ?_ _ | refine blk_drew ?_ | refine blk_alloc ?_ _)); exact BK235.out⟩, ⟨by (with_reducible repeat (first | refine blk_drewN ?_ _ | refine blk_drew ?_ | refine blk_alloc ?_ _)); refine blk_far ?_ NB244_255.out _; (with_reducible repeat (first | refine blk_drewN ?_ _ | refine blk_drew ?_ | refine blk_alloc ?_ _)); refine blk_far ?_ NB244_255.out _; (with_reducible repeat (first | refine blk_drewN ?_ _ | refine blk_drew ?_ | refine blk_alloc ?_ _)); refine blk_far ?_ NB244_255.out _; (with_reducible repeat (first | refine blk_drewN ?_ _ | refine blk_drew ?_ | refine blk_alloc ?_ _)); exact BK244.out⟩, ⟨by repeat (first | (with_reducible first | exact HB.out | apply below_alloc | apply pw_below_drewN | apply below_drew1 | refine below_set ?_ GE229.out | refine below_set ?_ GE235.out | refine below_set ?_ GE244.out | refine below_set ?_ GE255.out) | exact HB.out)⟩⟩
                · rw [if_neg c93] at H
                  have c93b0 : (t254 == 0) = false := beq_eq_false_iff_ne.mpr c93
                  have c93b1 : (t254 != 0) = true := bne_iff_ne.mpr c93
                  obtain rfl := Option.some.inj H
                  have hnb115 := NB229_235.out
                  have hnc115 := NB235_229.out
                  have hnb116 := NB229_244.out
                  have hnc116 := NB244_229.out
                  have hcz117_0 : w90.cell? ⟨gb229, 0, none⟩ = some (.int .u8 a4_0) := (blk_cell BK229.out 0).trans rfl
                  have hcz117_1 : w90.cell? ⟨gb229, 1, none⟩ = some (.int .u8 a4_1) := (blk_cell BK229.out 1).trans rfl
                  have hcz117_2 : w90.cell? ⟨gb229, 2, none⟩ = some (.string a4_2) := (blk_cell BK229.out 2).trans rfl
                  have hfz117_0 := blk_frozen BK229.out 0
                  have hfz117_1 := blk_frozen BK229.out 1
                  have hfz117_2 := blk_frozen BK229.out 2
                  go_wp2_with (first | ((with_reducible refine gate_callee (f := 17) rfl ?_); refine goesL_ (some 128) rfl rfl Try.func17 (by kernel_rfl) rfl #[.int .u8 a4_1, .string t248, .string t249] rfl (by (try simp only [List.map_toArray, List.map_cons, List.map_nil]); first | done | rfl | (simp only [List.length_drop, List.length_take]; rfl)) ?_; (with_reducible refine (pap_Request.calls a4_1 t248 t249 t251 t252 t253 t254 _ A92.out).mono ?_); rintro e w118 ⟨rfl, hb⟩; refine ⟨_, rfl, ?_⟩; have n0_ := Aside0.mk (blk_below (g := gb229) (o := .cells #[.int .u8 a4_0, .int .u8 a4_1, .string a4_2] 25 (0, 0)) (by (with_reducible repeat (first | refine blk_drewN ?_ _ | refine blk_drew ?_ | refine blk_alloc ?_ _)); exact BK229.out) hb); have n1_ := Aside0.mk (blk_below (g := gb235) (o := .cells #[.int .u8 t231, .int .u8 t232, .string t233] 25 (0, 0)) (by (with_reducible repeat (first | refine blk_drewN ?_ _ | refine blk_drew ?_ | refine blk_alloc ?_ _)); exact BK235.out) hb); have n2_ := Aside0.mk (blk_below (g := gb244) (o := .cells #[.int .u8 t240, .int .u8 t241, .string t242] 25 (0, 0)) (by (with_reducible repeat (first | refine blk_drewN ?_ _ | refine blk_drew ?_ | refine blk_alloc ?_ _)); exact BK244.out) hb); have n3_ := Aside0.mk (below_step (by repeat (first | (with_reducible first | exact HB.out | apply below_alloc | apply pw_below_drewN | apply below_drew1 | refine below_set ?_ GE229.out | refine below_set ?_ GE235.out | refine below_set ?_ GE244.out) | exact HB.out)) hb); clear BK229; clear BK235; clear BK244; clear HB; have BK229 := n0_; have BK235 := n1_; have BK244 := n2_; have HB := n3_; clear n0_ n1_ n2_ n3_; (try clear hb); (try clear hb2); (try clear hk); (try clear hi)) | ((with_reducible refine gate_dst (N := 24) rfl ?_); refine box_event ?hg (N := 24) ?hd (cs := #[.int .u8 0, .int .u8 0, .string (⟨#[]⟩ : ByteArray)]) (t := 25) ?hr ?_; (case hd => rfl); (case hg => rfl); (case hr => first | (go_simp; done) | (go_simp; rfl)); intro gb255 hg w119 hbox hb; have n0_ := Aside0.mk (blk_below (g := gb229) (o := .cells #[.int .u8 a4_0, .int .u8 a4_1, .string a4_2] 25 (0, 0)) (by (with_reducible repeat (first | refine blk_drewN ?_ _ | refine blk_drew ?_ | refine blk_alloc ?_ _)); exact BK229.out) hb); have n1_ := Aside0.mk (blk_below (g := gb235) (o := .cells #[.int .u8 t231, .int .u8 t232, .string t233] 25 (0, 0)) (by (with_reducible repeat (first | refine blk_drewN ?_ _ | refine blk_drew ?_ | refine blk_alloc ?_ _)); exact BK235.out) hb); have n2_ := Aside0.mk (blk_below (g := gb244) (o := .cells #[.int .u8 t240, .int .u8 t241, .string t242] 25 (0, 0)) (by (with_reducible repeat (first | refine blk_drewN ?_ _ | refine blk_drew ?_ | refine blk_alloc ?_ _)); exact BK244.out) hb); have n3_ := Aside0.mk (below_step (by repeat (first | (with_reducible first | exact HB.out | apply below_alloc | apply pw_below_drewN | apply below_drew1 | refine below_set ?_ GE229.out | refine below_set ?_ GE235.out | refine below_set ?_ GE244.out) | exact HB.out)) hb); have n4_ := Aside0.mk (hbox); have n5_ := Aside0.mk ((by rw [hg]; exact (below_size (by repeat (first | (with_reducible first | exact HB.out | apply below_alloc | apply pw_below_drewN | apply below_drew1 | refine below_set ?_ GE229.out | refine below_set ?_ GE235.out | refine below_set ?_ GE244.out) | exact HB.out))) : w.heap.size ≤ gb255)); have n6_ := Aside0.mk ((by rw [hg]; exact (below_size (by repeat (first | (with_reducible first | exact HB.out | apply below_alloc | apply pw_below_drewN | apply below_drew1 | refine below_set ?_ GE229.out | refine below_set ?_ GE235.out | refine below_set ?_ GE244.out) | exact HB.out))) : w.heap.size ≤ gb255)); have n7_ := Aside0.mk ((by rw [hg]; exact Nat.ne_of_lt (blk_lt (g := gb229) (o := .cells #[.int .u8 a4_0, .int .u8 a4_1, .string a4_2] 25 (0, 0)) (by (with_reducible repeat (first | refine blk_drewN ?_ _ | refine blk_drew ?_ | refine blk_alloc ?_ _)); exact BK229.out)) : gb229 ≠ gb255)); have n8_ := Aside0.mk ((by rw [hg]; exact Nat.ne_of_gt (blk_lt (g := gb229) (o := .cells #[.int .u8 a4_0, .int .u8 a4_1, .string a4_2] 25 (0, 0)) (by (with_reducible repeat (first | refine blk_drewN ?_ _ | refine blk_drew ?_ | refine blk_alloc ?_ _)); exact BK229.out)) : gb255 ≠ gb229)); have n9_ := Aside0.mk ((by rw [hg]; exact Nat.ne_of_lt (blk_lt (g := gb235) (o := .cells #[.int .u8 t231, .int .u8 t232, .string t233] 25 (0, 0)) (by (with_reducible repeat (first | refine blk_drewN ?_ _ | refine blk_drew ?_ | refine blk_alloc ?_ _)); exact BK235.out)) : gb235 ≠ gb255)); have n10_ := Aside0.mk ((by rw [hg]; exact Nat.ne_of_gt (blk_lt (g := gb235) (o := .cells #[.int .u8 t231, .int .u8 t232, .string t233] 25 (0, 0)) (by (with_reducible repeat (first | refine blk_drewN ?_ _ | refine blk_drew ?_ | refine blk_alloc ?_ _)); exact BK235.out)) : gb255 ≠ gb235)); have n11_ := Aside0.mk ((by rw [hg]; exact Nat.ne_of_lt (blk_lt (g := gb244) (o := .cells #[.int .u8 t240, .int .u8 t241, .string t242] 25 (0, 0)) (by (with_reducible repeat (first | refine blk_drewN ?_ _ | refine blk_drew ?_ | refine blk_alloc ?_ _)); exact BK244.out)) : gb244 ≠ gb255)); have n12_ := Aside0.mk ((by rw [hg]; exact Nat.ne_of_gt (blk_lt (g := gb244) (o := .cells #[.int .u8 t240, .int .u8 t241, .string t242] 25 (0, 0)) (by (with_reducible repeat (first | refine blk_drewN ?_ _ | refine blk_drew ?_ | refine blk_alloc ?_ _)); exact BK244.out)) : gb255 ≠ gb244)); clear BK229; clear BK235; clear BK244; clear HB; have BK229 := n0_; have BK235 := n1_; have BK244 := n2_; have HB := n3_; have BK255 := n4_; have GW255 := n5_; have GE255 := n6_; have NB229_255 := n7_; have NB255_229 := n8_; have NB235_255 := n9_; have NB255_235 := n10_; have NB244_255 := n11_; have NB255_244 := n12_; clear n0_ n1_ n2_ n3_ n4_ n5_ n6_ n7_ n8_ n9_ n10_ n11_ n12_; clear hb hbox hg; have hnb120 := NB255_229.out; have hnc120 := NB229_255.out; have hnb121 := NB255_235.out; have hnc121 := NB235_255.out; have hnb122 := NB255_244.out; have hnc122 := NB244_255.out; have hcz123_0 : w119.cell? ⟨gb255, 0, none⟩ = some (.int .u8 0) := (blk_cell BK255.out 0).trans rfl; have hcz123_1 : w119.cell? ⟨gb255, 1, none⟩ = some (.int .u8 0) := (blk_cell BK255.out 1).trans rfl; have hcz123_2 : w119.cell? ⟨gb255, 2, none⟩ = some (.string (⟨#[]⟩ : ByteArray)) := (blk_cell BK255.out 2).trans rfl; have hfz123_0 := blk_frozen BK255.out 0; have hfz123_1 := blk_frozen BK255.out 1; have hfz123_2 := blk_frozen BK255.out 2))
                  go_ret
                  exact ⟨by first | rfl | (simp [errW_none, errW_some] <;> rfl) | (simp [*, errW_none, errW_some] <;> rfl), by repeat (first | (with_reducible first | exact HB.out | apply below_alloc | apply pw_below_drewN | apply below_drew1 | refine below_set ?_ GE229.out | refine below_set ?_ GE235.out | refine below_set ?_ GE244.out | refine below_set ?_ GE255.out) | exact HB.out)⟩
              · rw [if_neg c91] at H
                have c91b0 : (t250 == 0) = false := beq_eq_false_iff_ne.mpr c91
                have c91b1 : (t250 != 0) = true := bne_iff_ne.mpr c91
                (first | rw [c91b0] | (simp only [i64_w, i32_w]; rw [c91b0]) | skip)
                have H' := Aside0.mk H
                clear H
                go_wp2
                go_meet
                case rel => exact ⟨_, H', ⟨by have := HJ11.out; have := HJ50.out; first | omega | exact Nat.le_refl _⟩, ⟨by (with_reducible repeat (first | refine blk_drewN ?_ _ | refine blk_drew ?_ | refine blk_alloc ?_ _)); exact BK229.out⟩, ⟨by (with_reducible repeat (first | refine blk_drewN ?_ _ | refine blk_drew ?_ | refine blk_alloc ?_ _)); exact BK235.out⟩, ⟨by (with_reducible repeat (first | refine blk_drewN ?_ _ | refine blk_drew ?_ | refine blk_alloc ?_ _)); exact BK244.out⟩, ⟨by repeat (first | (with_reducible first | exact HB.out | apply below_alloc | apply pw_below_drewN | apply below_drew1 | refine below_set ?_ GE229.out | refine below_set ?_ GE235.out | refine below_set ?_ GE244.out) | exact HB.out)⟩⟩
            case rest =>
              clear HC86
              try clear c1
              try clear c2
              try clear p2
              try clear c3
              try clear c4
              try clear c5
              try clear c6
              try clear c6b0
              try clear p6
              try clear c7
              try clear c8
              try clear c9
              try clear c10
              try clear c11
              try clear c12
              try clear c16
              try clear c17
              try clear c19
              try clear c19b0
              try clear c19b1
              try clear c21
              try clear c21b0
              try clear c21b1
              try clear c22
              try clear c22b0
              try clear c22b1
              try clear c23
              try clear c23b0
              try clear c23b1
              try clear c24
              try clear c24b0
              try clear c24b1
              try clear c26
              try clear c27
              try clear c32
              try clear c37
              try clear c41
              try clear c44
              try clear c47
              try clear c54
              try clear c55
              try clear c57
              try clear c57b0
              try clear c57b1
              try clear c59
              try clear c59b0
              try clear c59b1
              try clear c60
              try clear c60b0
              try clear c60b1
              try clear c60b2
              try clear c61
              try clear c62
              try clear p64
              try clear c65
              try clear c65b0
              try clear c65b1
              try clear c66
              try clear c66b0
              try clear c66b1
              try clear c67
              try clear c68
              try clear c72
              try clear c73
              try clear c77
              try clear c78
              try clear c81
              try clear c82
              try clear c87
              try clear c88
              try clear c91
              try clear c91b0
              try clear c91b1
              try clear c93
              try clear c93b0
              try clear c93b1
              try clear c94
              try clear c94b0
              try clear c95
              try clear c96
              try clear c100
              try clear c101
              try clear c102
              try clear c105
              try clear c106
              try clear c110
              try clear c111
              try clear c112
              try clear c115
              try clear c116
              try clear c120
              try clear c121
              try clear c122
              try clear hcz103_0
              try clear hcz103_1
              try clear hcz103_2
              try clear hcz104_0
              try clear hcz104_1
              try clear hcz104_2
              try clear hcz107_0
              try clear hcz107_1
              try clear hcz107_2
              try clear hcz113_0
              try clear hcz113_1
              try clear hcz113_2
              try clear hcz114_0
              try clear hcz114_1
              try clear hcz114_2
              try clear hcz117_0
              try clear hcz117_1
              try clear hcz117_2
              try clear hcz123_0
              try clear hcz123_1
              try clear hcz123_2
              try clear hcz14_0
              try clear hcz14_1
              try clear hcz14_2
              try clear hcz18_0
              try clear hcz18_1
              try clear hcz18_2
              try clear hcz28_0
              try clear hcz28_1
              try clear hcz28_2
              try clear hcz30_0
              try clear hcz30_1
              try clear hcz30_2
              try clear hcz33_0
              try clear hcz33_1
              try clear hcz33_2
              try clear hcz35_0
              try clear hcz35_1
              try clear hcz35_2
              try clear hcz38_0
              try clear hcz38_1
              try clear hcz38_2
              try clear hcz40_0
              try clear hcz40_1
              try clear hcz40_2
              try clear hcz42_0
              try clear hcz42_1
              try clear hcz42_2
              try clear hcz45_0
              try clear hcz45_1
              try clear hcz45_2
              try clear hcz48_0
              try clear hcz48_1
              try clear hcz48_2
              try clear hcz56_0
              try clear hcz56_1
              try clear hcz56_2
              try clear hcz63_0
              try clear hcz63_1
              try clear hcz63_2
              try clear hcz69_0
              try clear hcz69_1
              try clear hcz69_2
              try clear hcz71_0
              try clear hcz71_1
              try clear hcz71_2
              try clear hcz74_0
              try clear hcz74_1
              try clear hcz74_2
              try clear hcz76_0
              try clear hcz76_1
              try clear hcz76_2
              try clear hcz79_0
              try clear hcz79_1
              try clear hcz79_2
              try clear hcz83_0
              try clear hcz83_1
              try clear hcz83_2
              try clear hcz89_0
              try clear hcz89_1
              try clear hcz89_2
              try clear hcz97_0
              try clear hcz97_1
              try clear hcz97_2
              try clear hcz9_0
              try clear hcz9_1
              try clear hcz9_2
              try clear hfz103_0
              try clear hfz103_1
              try clear hfz103_2
              try clear hfz104_0
              try clear hfz104_1
              try clear hfz104_2
              try clear hfz107_0
              try clear hfz107_1
              try clear hfz107_2
              try clear hfz113_0
              try clear hfz113_1
              try clear hfz113_2
              try clear hfz114_0
              try clear hfz114_1
              try clear hfz114_2
              try clear hfz117_0
              try clear hfz117_1
              try clear hfz117_2
              try clear hfz123_0
              try clear hfz123_1
              try clear hfz123_2
              try clear hfz14_0
              try clear hfz14_1
              try clear hfz14_2
              try clear hfz18_0
              try clear hfz18_1
              try clear hfz18_2
              try clear hfz28_0
              try clear hfz28_1
              try clear hfz28_2
              try clear hfz30_0
              try clear hfz30_1
              try clear hfz30_2
              try clear hfz33_0
              try clear hfz33_1
              try clear hfz33_2
              try clear hfz35_0
              try clear hfz35_1
              try clear hfz35_2
              try clear hfz38_0
              try clear hfz38_1
              try clear hfz38_2
              try clear hfz40_0
              try clear hfz40_1
              try clear hfz40_2
              try clear hfz42_0
              try clear hfz42_1
              try clear hfz42_2
              try clear hfz45_0
              try clear hfz45_1
              try clear hfz45_2
              try clear hfz48_0
              try clear hfz48_1
              try clear hfz48_2
              try clear hfz56_0
              try clear hfz56_1
              try clear hfz56_2
              try clear hfz63_0
              try clear hfz63_1
              try clear hfz63_2
              try clear hfz69_0
              try clear hfz69_1
              try clear hfz69_2
              try clear hfz71_0
              try clear hfz71_1
              try clear hfz71_2
              try clear hfz74_0
              try clear hfz74_1
              try clear hfz74_2
              try clear hfz76_0
              try clear hfz76_1
              try clear hfz76_2
              try clear hfz79_0
              try clear hfz79_1
              try clear hfz79_2
              try clear hfz83_0
              try clear hfz83_1
              try clear hfz83_2
              try clear hfz89_0
              try clear hfz89_1
              try clear hfz89_2
              try clear hfz97_0
              try clear hfz97_1
              try clear hfz97_2
              try clear hfz9_0
              try clear hfz9_1
              try clear hfz9_2
              try clear p2
              try clear p6
              try clear p64
              obtain ⟨kq, HA, HJ85, BK229, BK235, BK244, HB⟩ := hcut
              cases kq with
              | zero => exact absurd HA.out (by simp [halyardlaw18_PapBack.j2])
              | succ kj85 =>
                have H := HA.out
                clear HA
                simp only [halyardlaw18_PapBack.j2] at H
                replace H := Option.bind_eq_some_iff.mp H
                obtain ⟨⟨t256, t257, t258⟩, A1240, H⟩ := H
                replace H : (if t258 = 0 then ((pap_Answer.f a4_1 t256 t257).bind fun bt259 => (if bt259.2.2.2 = 0 then (if (!(bt259.1 == a4_0) || (!(bt259.2.1 == a4_1) || (!(bt259.2.2.1.toList == a4_2.toList)))) = true then (some false) else (if t250 = 0 then ((halyardlaw18_alive.f).bind fun t264 => (some t264)) else (if t248.toList = ([] : List UInt8) then (if t249.toList = ([] : List UInt8) then ((halyardlaw18_alive.f).bind fun t265 => (some t265)) else (some false)) else (some false)))) else (some false))) else (if t250 = 0 then (if t256 = true then (some false) else (if t257.toList = ([] : List UInt8) then ((halyardlaw18_alive.f).bind fun t266 => (some t266)) else (some false))) else (if t248.toList = ([] : List UInt8) then (if t249.toList = ([] : List UInt8) then (if t256 = true then (some false) else (if t257.toList = ([] : List UInt8) then ((halyardlaw18_alive.f).bind fun t267 => (some t267)) else (some false))) else (some false)) else (some false)))) = some r := H
                have A124 := Aside0.mk A1240
                clear A1240
                by_cases c125 : t258 = 0
                · rw [if_pos c125] at H
                  have c125b0 : (t258 == 0) = true := beq_iff_eq.mpr c125
                  have c125b1 : (t258 != 0) = false := bne_eq_false_iff_eq.mpr c125
                  clear c125
                  replace H := Option.bind_eq_some_iff.mp H
                  obtain ⟨⟨t259, t260, t261, t262⟩, A1260, H⟩ := H
                  replace H : (if t262 = 0 then (if (!(t259 == a4_0) || (!(t260 == a4_1) || (!(t261.toList == a4_2.toList)))) = true then (some false) else (if t250 = 0 then ((halyardlaw18_alive.f).bind fun t264 => (some t264)) else (if t248.toList = ([] : List UInt8) then (if t249.toList = ([] : List UInt8) then ((halyardlaw18_alive.f).bind fun t265 => (some t265)) else (some false)) else (some false)))) else (some false)) = some r := H
                  have A126 := Aside0.mk A1260
                  clear A1260
                  by_cases c127 : t262 = 0
                  · rw [if_pos c127] at H
                    have c127b0 : (t262 == 0) = true := beq_iff_eq.mpr c127
                    have c127b1 : (t262 != 0) = false := bne_eq_false_iff_eq.mpr c127
                    clear c127
                    by_cases c128 : (!(t259 == a4_0) || (!(t260 == a4_1) || (!(t261.toList == a4_2.toList)))) = true
                    · rw [if_pos c128] at H
                      have c128b0 : (!(t259 == a4_0) || (!(t260 == a4_1) || (!(t261.toList == a4_2.toList)))) = true := c128
                      clear c128
                      obtain rfl := Option.some.inj H
                      have hnb129 := NB229_235.out
                      have hnc129 := NB235_229.out
                      have hnb130 := NB229_244.out
                      have hnc130 := NB244_229.out
                      have hcz131_0 : wc.cell? ⟨gb229, 0, none⟩ = some (.int .u8 a4_0) := (blk_cell BK229.out 0).trans rfl
                      have hcz131_1 : wc.cell? ⟨gb229, 1, none⟩ = some (.int .u8 a4_1) := (blk_cell BK229.out 1).trans rfl
                      have hcz131_2 : wc.cell? ⟨gb229, 2, none⟩ = some (.string a4_2) := (blk_cell BK229.out 2).trans rfl
                      have hfz131_0 := blk_frozen BK229.out 0
                      have hfz131_1 := blk_frozen BK229.out 1
                      have hfz131_2 := blk_frozen BK229.out 2
                      go_wp2_with (first | ((with_reducible refine gate_callee (f := 24) rfl ?_); refine goesL_ (some 140) rfl rfl Try.func24 (by kernel_rfl) rfl #[.agg #[.int .u8 a4_0, .int .u8 a4_1, .string a4_2]] rfl (by (try simp only [List.map_toArray, List.map_cons, List.map_nil]); first | done | rfl | (simp only [List.length_drop, List.length_take]; rfl)) ?_; (with_reducible refine (pap_Answered.calls kj85 a4_0 a4_1 a4_2 t256 t257 t258 _ A124.out).mono ?_); rintro e w132 ⟨rfl, hb⟩; refine ⟨_, rfl, ?_⟩; have n0_ := Aside0.mk (blk_below (g := gb229) (o := .cells #[.int .u8 a4_0, .int .u8 a4_1, .string a4_2] 25 (0, 0)) (by (with_reducible repeat (first | refine blk_drewN ?_ _ | refine blk_drew ?_ | refine blk_alloc ?_ _)); exact BK229.out) hb); have n1_ := Aside0.mk (blk_below (g := gb235) (o := .cells #[.int .u8 t231, .int .u8 t232, .string t233] 25 (0, 0)) (by (with_reducible repeat (first | refine blk_drewN ?_ _ | refine blk_drew ?_ | refine blk_alloc ?_ _)); exact BK235.out) hb); have n2_ := Aside0.mk (blk_below (g := gb244) (o := .cells #[.int .u8 t240, .int .u8 t241, .string t242] 25 (0, 0)) (by (with_reducible repeat (first | refine blk_drewN ?_ _ | refine blk_drew ?_ | refine blk_alloc ?_ _)); exact BK244.out) hb); have n3_ := Aside0.mk (below_step (by repeat (first | (with_reducible first | exact HB.out | apply below_alloc | apply pw_below_drewN | apply below_drew1 | refine below_set ?_ GE229.out | refine below_set ?_ GE235.out | refine below_set ?_ GE244.out) | exact HB.out)) hb); clear BK229; clear BK235; clear BK244; clear HB; have BK229 := n0_; have BK235 := n1_; have BK244 := n2_; have HB := n3_; clear n0_ n1_ n2_ n3_; (try clear hb); (try clear hb2); (try clear hk); (try clear hi); have hcz133_0 : w132.cell? ⟨gb229, 0, none⟩ = some (.int .u8 a4_0) := (blk_cell BK229.out 0).trans rfl; have hcz133_1 : w132.cell? ⟨gb229, 1, none⟩ = some (.int .u8 a4_1) := (blk_cell BK229.out 1).trans rfl; have hcz133_2 : w132.cell? ⟨gb229, 2, none⟩ = some (.string a4_2) := (blk_cell BK229.out 2).trans rfl; have hfz133_0 := blk_frozen BK229.out 0; have hfz133_1 := blk_frozen BK229.out 1; have hfz133_2 := blk_frozen BK229.out 2) | ((with_reducible refine gate_callee (f := 21) rfl ?_); refine goesL_ (some 151) rfl rfl Try.func21 (by kernel_rfl) rfl #[.int .u8 a4_1, .bool t256, .string t257] rfl (by (try simp only [List.map_toArray, List.map_cons, List.map_nil]); first | done | rfl | (simp only [List.length_drop, List.length_take]; rfl)) ?_; (with_reducible refine (pap_Answer.calls a4_1 t256 t257 t259 t260 t261 t262 _ A126.out).mono ?_); rintro e w134 ⟨rfl, hb⟩; refine ⟨_, rfl, ?_⟩; have n0_ := Aside0.mk (blk_below (g := gb229) (o := .cells #[.int .u8 a4_0, .int .u8 a4_1, .string a4_2] 25 (0, 0)) (by (with_reducible repeat (first | refine blk_drewN ?_ _ | refine blk_drew ?_ | refine blk_alloc ?_ _)); exact BK229.out) hb); have n1_ := Aside0.mk (blk_below (g := gb235) (o := .cells #[.int .u8 t231, .int .u8 t232, .string t233] 25 (0, 0)) (by (with_reducible repeat (first | refine blk_drewN ?_ _ | refine blk_drew ?_ | refine blk_alloc ?_ _)); exact BK235.out) hb); have n2_ := Aside0.mk (blk_below (g := gb244) (o := .cells #[.int .u8 t240, .int .u8 t241, .string t242] 25 (0, 0)) (by (with_reducible repeat (first | refine blk_drewN ?_ _ | refine blk_drew ?_ | refine blk_alloc ?_ _)); exact BK244.out) hb); have n3_ := Aside0.mk (below_step (by repeat (first | (with_reducible first | exact HB.out | apply below_alloc | apply pw_below_drewN | apply below_drew1 | refine below_set ?_ GE229.out | refine below_set ?_ GE235.out | refine below_set ?_ GE244.out) | exact HB.out)) hb); clear BK229; clear BK235; clear BK244; clear HB; have BK229 := n0_; have BK235 := n1_; have BK244 := n2_; have HB := n3_; clear n0_ n1_ n2_ n3_; (try clear hb); (try clear hb2); (try clear hk); (try clear hi)) | ((with_reducible refine gate_dst (N := 29) rfl ?_); refine box_event ?hg (N := 29) ?hd (cs := #[.int .u8 0, .int .u8 0, .string (⟨#[]⟩ : ByteArray)]) (t := 25) ?hr ?_; (case hd => rfl); (case hg => rfl); (case hr => first | (go_simp; done) | (go_simp; rfl)); intro gb263 hg w135 hbox hb; have n0_ := Aside0.mk (blk_below (g := gb229) (o := .cells #[.int .u8 a4_0, .int .u8 a4_1, .string a4_2] 25 (0, 0)) (by (with_reducible repeat (first | refine blk_drewN ?_ _ | refine blk_drew ?_ | refine blk_alloc ?_ _)); exact BK229.out) hb); have n1_ := Aside0.mk (blk_below (g := gb235) (o := .cells #[.int .u8 t231, .int .u8 t232, .string t233] 25 (0, 0)) (by (with_reducible repeat (first | refine blk_drewN ?_ _ | refine blk_drew ?_ | refine blk_alloc ?_ _)); exact BK235.out) hb); have n2_ := Aside0.mk (blk_below (g := gb244) (o := .cells #[.int .u8 t240, .int .u8 t241, .string t242] 25 (0, 0)) (by (with_reducible repeat (first | refine blk_drewN ?_ _ | refine blk_drew ?_ | refine blk_alloc ?_ _)); exact BK244.out) hb); have n3_ := Aside0.mk (below_step (by repeat (first | (with_reducible first | exact HB.out | apply below_alloc | apply pw_below_drewN | apply below_drew1 | refine below_set ?_ GE229.out | refine below_set ?_ GE235.out | refine below_set ?_ GE244.out) | exact HB.out)) hb); have n4_ := Aside0.mk (hbox); have n5_ := Aside0.mk ((by rw [hg]; exact (below_size (by repeat (first | (with_reducible first | exact HB.out | apply below_alloc | apply pw_below_drewN | apply below_drew1 | refine below_set ?_ GE229.out | refine below_set ?_ GE235.out | refine below_set ?_ GE244.out) | exact HB.out))) : w.heap.size ≤ gb263)); have n6_ := Aside0.mk ((by rw [hg]; exact (below_size (by repeat (first | (with_reducible first | exact HB.out | apply below_alloc | apply pw_below_drewN | apply below_drew1 | refine below_set ?_ GE229.out | refine below_set ?_ GE235.out | refine below_set ?_ GE244.out) | exact HB.out))) : w.heap.size ≤ gb263)); have n7_ := Aside0.mk ((by rw [hg]; exact Nat.ne_of_lt (blk_lt (g := gb229) (o := .cells #[.int .u8 a4_0, .int .u8 a4_1, .string a4_2] 25 (0, 0)) (by (with_reducible repeat (first | refine blk_drewN ?_ _ | refine blk_drew ?_ | refine blk_alloc ?_ _)); exact BK229.out)) : gb229 ≠ gb263)); have n8_ := Aside0.mk ((by rw [hg]; exact Nat.ne_of_gt (blk_lt (g := gb229) (o := .cells #[.int .u8 a4_0, .int .u8 a4_1, .string a4_2] 25 (0, 0)) (by (with_reducible repeat (first | refine blk_drewN ?_ _ | refine blk_drew ?_ | refine blk_alloc ?_ _)); exact BK229.out)) : gb263 ≠ gb229)); have n9_ := Aside0.mk ((by rw [hg]; exact Nat.ne_of_lt (blk_lt (g := gb235) (o := .cells #[.int .u8 t231, .int .u8 t232, .string t233] 25 (0, 0)) (by (with_reducible repeat (first | refine blk_drewN ?_ _ | refine blk_drew ?_ | refine blk_alloc ?_ _)); exact BK235.out)) : gb235 ≠ gb263)); have n10_ := Aside0.mk ((by rw [hg]; exact Nat.ne_of_gt (blk_lt (g := gb235) (o := .cells #[.int .u8 t231, .int .u8 t232, .string t233] 25 (0, 0)) (by (with_reducible repeat (first | refine blk_drewN ?_ _ | refine blk_drew ?_ | refine blk_alloc ?_ _)); exact BK235.out)) : gb263 ≠ gb235)); have n11_ := Aside0.mk ((by rw [hg]; exact Nat.ne_of_lt (blk_lt (g := gb244) (o := .cells #[.int .u8 t240, .int .u8 t241, .string t242] 25 (0, 0)) (by (with_reducible repeat (first | refine blk_drewN ?_ _ | refine blk_drew ?_ | refine blk_alloc ?_ _)); exact BK244.out)) : gb244 ≠ gb263)); have n12_ := Aside0.mk ((by rw [hg]; exact Nat.ne_of_gt (blk_lt (g := gb244) (o := .cells #[.int .u8 t240, .int .u8 t241, .string t242] 25 (0, 0)) (by (with_reducible repeat (first | refine blk_drewN ?_ _ | refine blk_drew ?_ | refine blk_alloc ?_ _)); exact BK244.out)) : gb263 ≠ gb244)); clear BK229; clear BK235; clear BK244; clear HB; have BK229 := n0_; have BK235 := n1_; have BK244 := n2_; have HB := n3_; have BK263 := n4_; have GW263 := n5_; have GE263 := n6_; have NB229_263 := n7_; have NB263_229 := n8_; have NB235_263 := n9_; have NB263_235 := n10_; have NB244_263 := n11_; have NB263_244 := n12_; clear n0_ n1_ n2_ n3_ n4_ n5_ n6_ n7_ n8_ n9_ n10_ n11_ n12_; clear hb hbox hg; have hnb136 := NB263_229.out; have hnc136 := NB229_263.out; have hnb137 := NB263_235.out; have hnc137 := NB235_263.out; have hnb138 := NB263_244.out; have hnc138 := NB244_263.out; have hcz139_0 : w135.cell? ⟨gb263, 0, none⟩ = some (.int .u8 0) := (blk_cell BK263.out 0).trans rfl; have hcz139_1 : w135.cell? ⟨gb263, 1, none⟩ = some (.int .u8 0) := (blk_cell BK263.out 1).trans rfl; have hcz139_2 : w135.cell? ⟨gb263, 2, none⟩ = some (.string (⟨#[]⟩ : ByteArray)) := (blk_cell BK263.out 2).trans rfl; have hfz139_0 := blk_frozen BK263.out 0; have hfz139_1 := blk_frozen BK263.out 1; have hfz139_2 := blk_frozen BK263.out 2; have hcz140_0 : w135.cell? ⟨gb229, 0, none⟩ = some (.int .u8 a4_0) := (blk_cell BK229.out 0).trans rfl; have hcz140_1 : w135.cell? ⟨gb229, 1, none⟩ = some (.int .u8 a4_1) := (blk_cell BK229.out 1).trans rfl; have hcz140_2 : w135.cell? ⟨gb229, 2, none⟩ = some (.string a4_2) := (blk_cell BK229.out 2).trans rfl; have hfz140_0 := blk_frozen BK229.out 0; have hfz140_1 := blk_frozen BK229.out 1; have hfz140_2 := blk_frozen BK229.out 2))
                      go_ret
                      exact ⟨by first | rfl | (simp [errW_none, errW_some] <;> rfl) | (simp [*, errW_none, errW_some] <;> rfl), by repeat (first | (with_reducible first | exact HB.out | apply below_alloc | apply pw_below_drewN | apply below_drew1 | refine below_set ?_ GE229.out | refine below_set ?_ GE235.out | refine below_set ?_ GE244.out | refine below_set ?_ GE263.out) | exact HB.out)⟩
                    · rw [if_neg c128] at H
                      have c128b0 : (!(t259 == a4_0) || (!(t260 == a4_1) || (!(t261.toList == a4_2.toList)))) = false := by simpa using c128
                      clear c128
                      by_cases c141 : t250 = 0
                      · rw [if_pos c141] at H
                        have c141b0 : (t250 == 0) = true := beq_iff_eq.mpr c141
                        have c141b1 : (t250 != 0) = false := bne_eq_false_iff_eq.mpr c141
                        clear c141
                        replace H := Option.bind_eq_some_iff.mp H
                        obtain ⟨t264, A1420, H⟩ := H
                        replace H : (some t264) = some r := H
                        have A142 := Aside0.mk A1420
                        clear A1420
                        obtain rfl := Option.some.inj H
                        have hnb143 := NB229_235.out
                        have hnc143 := NB235_229.out
                        have hnb144 := NB229_244.out
                        have hnc144 := NB244_229.out
                        have hcz145_0 : wc.cell? ⟨gb229, 0, none⟩ = some (.int .u8 a4_0) := (blk_cell BK229.out 0).trans rfl
                        have hcz145_1 : wc.cell? ⟨gb229, 1, none⟩ = some (.int .u8 a4_1) := (blk_cell BK229.out 1).trans rfl
                        have hcz145_2 : wc.cell? ⟨gb229, 2, none⟩ = some (.string a4_2) := (blk_cell BK229.out 2).trans rfl
                        have hfz145_0 := blk_frozen BK229.out 0
                        have hfz145_1 := blk_frozen BK229.out 1
                        have hfz145_2 := blk_frozen BK229.out 2
                        go_wp2_with (first | ((with_reducible refine gate_callee (f := 24) rfl ?_); refine goesL_ (some 140) rfl rfl Try.func24 (by kernel_rfl) rfl #[.agg #[.int .u8 a4_0, .int .u8 a4_1, .string a4_2]] rfl (by (try simp only [List.map_toArray, List.map_cons, List.map_nil]); first | done | rfl | (simp only [List.length_drop, List.length_take]; rfl)) ?_; (with_reducible refine (pap_Answered.calls kj85 a4_0 a4_1 a4_2 t256 t257 t258 _ A124.out).mono ?_); rintro e w146 ⟨rfl, hb⟩; refine ⟨_, rfl, ?_⟩; have n0_ := Aside0.mk (blk_below (g := gb229) (o := .cells #[.int .u8 a4_0, .int .u8 a4_1, .string a4_2] 25 (0, 0)) (by (with_reducible repeat (first | refine blk_drewN ?_ _ | refine blk_drew ?_ | refine blk_alloc ?_ _)); exact BK229.out) hb); have n1_ := Aside0.mk (blk_below (g := gb235) (o := .cells #[.int .u8 t231, .int .u8 t232, .string t233] 25 (0, 0)) (by (with_reducible repeat (first | refine blk_drewN ?_ _ | refine blk_drew ?_ | refine blk_alloc ?_ _)); exact BK235.out) hb); have n2_ := Aside0.mk (blk_below (g := gb244) (o := .cells #[.int .u8 t240, .int .u8 t241, .string t242] 25 (0, 0)) (by (with_reducible repeat (first | refine blk_drewN ?_ _ | refine blk_drew ?_ | refine blk_alloc ?_ _)); exact BK244.out) hb); have n3_ := Aside0.mk (below_step (by repeat (first | (with_reducible first | exact HB.out | apply below_alloc | apply pw_below_drewN | apply below_drew1 | refine below_set ?_ GE229.out | refine below_set ?_ GE235.out | refine below_set ?_ GE244.out) | exact HB.out)) hb); clear BK229; clear BK235; clear BK244; clear HB; have BK229 := n0_; have BK235 := n1_; have BK244 := n2_; have HB := n3_; clear n0_ n1_ n2_ n3_; (try clear hb); (try clear hb2); (try clear hk); (try clear hi); have hcz147_0 : w146.cell? ⟨gb229, 0, none⟩ = some (.int .u8 a4_0) := (blk_cell BK229.out 0).trans rfl; have hcz147_1 : w146.cell? ⟨gb229, 1, none⟩ = some (.int .u8 a4_1) := (blk_cell BK229.out 1).trans rfl; have hcz147_2 : w146.cell? ⟨gb229, 2, none⟩ = some (.string a4_2) := (blk_cell BK229.out 2).trans rfl; have hfz147_0 := blk_frozen BK229.out 0; have hfz147_1 := blk_frozen BK229.out 1; have hfz147_2 := blk_frozen BK229.out 2) | ((with_reducible refine gate_callee (f := 21) rfl ?_); refine goesL_ (some 151) rfl rfl Try.func21 (by kernel_rfl) rfl #[.int .u8 a4_1, .bool t256, .string t257] rfl (by (try simp only [List.map_toArray, List.map_cons, List.map_nil]); first | done | rfl | (simp only [List.length_drop, List.length_take]; rfl)) ?_; (with_reducible refine (pap_Answer.calls a4_1 t256 t257 t259 t260 t261 t262 _ A126.out).mono ?_); rintro e w148 ⟨rfl, hb⟩; refine ⟨_, rfl, ?_⟩; have n0_ := Aside0.mk (blk_below (g := gb229) (o := .cells #[.int .u8 a4_0, .int .u8 a4_1, .string a4_2] 25 (0, 0)) (by (with_reducible repeat (first | refine blk_drewN ?_ _ | refine blk_drew ?_ | refine blk_alloc ?_ _)); exact BK229.out) hb); have n1_ := Aside0.mk (blk_below (g := gb235) (o := .cells #[.int .u8 t231, .int .u8 t232, .string t233] 25 (0, 0)) (by (with_reducible repeat (first | refine blk_drewN ?_ _ | refine blk_drew ?_ | refine blk_alloc ?_ _)); exact BK235.out) hb); have n2_ := Aside0.mk (blk_below (g := gb244) (o := .cells #[.int .u8 t240, .int .u8 t241, .string t242] 25 (0, 0)) (by (with_reducible repeat (first | refine blk_drewN ?_ _ | refine blk_drew ?_ | refine blk_alloc ?_ _)); exact BK244.out) hb); have n3_ := Aside0.mk (below_step (by repeat (first | (with_reducible first | exact HB.out | apply below_alloc | apply pw_below_drewN | apply below_drew1 | refine below_set ?_ GE229.out | refine below_set ?_ GE235.out | refine below_set ?_ GE244.out) | exact HB.out)) hb); clear BK229; clear BK235; clear BK244; clear HB; have BK229 := n0_; have BK235 := n1_; have BK244 := n2_; have HB := n3_; clear n0_ n1_ n2_ n3_; (try clear hb); (try clear hb2); (try clear hk); (try clear hi)) | ((with_reducible refine gate_dst (N := 29) rfl ?_); refine box_event ?hg (N := 29) ?hd (cs := #[.int .u8 0, .int .u8 0, .string (⟨#[]⟩ : ByteArray)]) (t := 25) ?hr ?_; (case hd => rfl); (case hg => rfl); (case hr => first | (go_simp; done) | (go_simp; rfl)); intro gb263 hg w149 hbox hb; have n0_ := Aside0.mk (blk_below (g := gb229) (o := .cells #[.int .u8 a4_0, .int .u8 a4_1, .string a4_2] 25 (0, 0)) (by (with_reducible repeat (first | refine blk_drewN ?_ _ | refine blk_drew ?_ | refine blk_alloc ?_ _)); exact BK229.out) hb); have n1_ := Aside0.mk (blk_below (g := gb235) (o := .cells #[.int .u8 t231, .int .u8 t232, .string t233] 25 (0, 0)) (by (with_reducible repeat (first | refine blk_drewN ?_ _ | refine blk_drew ?_ | refine blk_alloc ?_ _)); exact BK235.out) hb); have n2_ := Aside0.mk (blk_below (g := gb244) (o := .cells #[.int .u8 t240, .int .u8 t241, .string t242] 25 (0, 0)) (by (with_reducible repeat (first | refine blk_drewN ?_ _ | refine blk_drew ?_ | refine blk_alloc ?_ _)); exact BK244.out) hb); have n3_ := Aside0.mk (below_step (by repeat (first | (with_reducible first | exact HB.out | apply below_alloc | apply pw_below_drewN | apply below_drew1 | refine below_set ?_ GE229.out | refine below_set ?_ GE235.out | refine below_set ?_ GE244.out) | exact HB.out)) hb); have n4_ := Aside0.mk (hbox); have n5_ := Aside0.mk ((by rw [hg]; exact (below_size (by repeat (first | (with_reducible first | exact HB.out | apply below_alloc | apply pw_below_drewN | apply below_drew1 | refine below_set ?_ GE229.out | refine below_set ?_ GE235.out | refine below_set ?_ GE244.out) | exact HB.out))) : w.heap.size ≤ gb263)); have n6_ := Aside0.mk ((by rw [hg]; exact (below_size (by repeat (first | (with_reducible first | exact HB.out | apply below_alloc | apply pw_below_drewN | apply below_drew1 | refine below_set ?_ GE229.out | refine below_set ?_ GE235.out | refine below_set ?_ GE244.out) | exact HB.out))) : w.heap.size ≤ gb263)); have n7_ := Aside0.mk ((by rw [hg]; exact Nat.ne_of_lt (blk_lt (g := gb229) (o := .cells #[.int .u8 a4_0, .int .u8 a4_1, .string a4_2] 25 (0, 0)) (by (with_reducible repeat (first | refine blk_drewN ?_ _ | refine blk_drew ?_ | refine blk_alloc ?_ _)); exact BK229.out)) : gb229 ≠ gb263)); have n8_ := Aside0.mk ((by rw [hg]; exact Nat.ne_of_gt (blk_lt (g := gb229) (o := .cells #[.int .u8 a4_0, .int .u8 a4_1, .string a4_2] 25 (0, 0)) (by (with_reducible repeat (first | refine blk_drewN ?_ _ | refine blk_drew ?_ | refine blk_alloc ?_ _)); exact BK229.out)) : gb263 ≠ gb229)); have n9_ := Aside0.mk ((by rw [hg]; exact Nat.ne_of_lt (blk_lt (g := gb235) (o := .cells #[.int .u8 t231, .int .u8 t232, .string t233] 25 (0, 0)) (by (with_reducible repeat (first | refine blk_drewN ?_ _ | refine blk_drew ?_ | refine blk_alloc ?_ _)); exact BK235.out)) : gb235 ≠ gb263)); have n10_ := Aside0.mk ((by rw [hg]; exact Nat.ne_of_gt (blk_lt (g := gb235) (o := .cells #[.int .u8 t231, .int .u8 t232, .string t233] 25 (0, 0)) (by (with_reducible repeat (first | refine blk_drewN ?_ _ | refine blk_drew ?_ | refine blk_alloc ?_ _)); exact BK235.out)) : gb263 ≠ gb235)); have n11_ := Aside0.mk ((by rw [hg]; exact Nat.ne_of_lt (blk_lt (g := gb244) (o := .cells #[.int .u8 t240, .int .u8 t241, .string t242] 25 (0, 0)) (by (with_reducible repeat (first | refine blk_drewN ?_ _ | refine blk_drew ?_ | refine blk_alloc ?_ _)); exact BK244.out)) : gb244 ≠ gb263)); have n12_ := Aside0.mk ((by rw [hg]; exact Nat.ne_of_gt (blk_lt (g := gb244) (o := .cells #[.int .u8 t240, .int .u8 t241, .string t242] 25 (0, 0)) (by (with_reducible repeat (first | refine blk_drewN ?_ _ | refine blk_drew ?_ | refine blk_alloc ?_ _)); exact BK244.out)) : gb263 ≠ gb244)); clear BK229; clear BK235; clear BK244; clear HB; have BK229 := n0_; have BK235 := n1_; have BK244 := n2_; have HB := n3_; have BK263 := n4_; have GW263 := n5_; have GE263 := n6_; have NB229_263 := n7_; have NB263_229 := n8_; have NB235_263 := n9_; have NB263_235 := n10_; have NB244_263 := n11_; have NB263_244 := n12_; clear n0_ n1_ n2_ n3_ n4_ n5_ n6_ n7_ n8_ n9_ n10_ n11_ n12_; clear hb hbox hg; have hnb150 := NB263_229.out; have hnc150 := NB229_263.out; have hnb151 := NB263_235.out; have hnc151 := NB235_263.out; have hnb152 := NB263_244.out; have hnc152 := NB244_263.out; have hcz153_0 : w149.cell? ⟨gb263, 0, none⟩ = some (.int .u8 0) := (blk_cell BK263.out 0).trans rfl; have hcz153_1 : w149.cell? ⟨gb263, 1, none⟩ = some (.int .u8 0) := (blk_cell BK263.out 1).trans rfl; have hcz153_2 : w149.cell? ⟨gb263, 2, none⟩ = some (.string (⟨#[]⟩ : ByteArray)) := (blk_cell BK263.out 2).trans rfl; have hfz153_0 := blk_frozen BK263.out 0; have hfz153_1 := blk_frozen BK263.out 1; have hfz153_2 := blk_frozen BK263.out 2; have hcz154_0 : w149.cell? ⟨gb229, 0, none⟩ = some (.int .u8 a4_0) := (blk_cell BK229.out 0).trans rfl; have hcz154_1 : w149.cell? ⟨gb229, 1, none⟩ = some (.int .u8 a4_1) := (blk_cell BK229.out 1).trans rfl; have hcz154_2 : w149.cell? ⟨gb229, 2, none⟩ = some (.string a4_2) := (blk_cell BK229.out 2).trans rfl; have hfz154_0 := blk_frozen BK229.out 0; have hfz154_1 := blk_frozen BK229.out 1; have hfz154_2 := blk_frozen BK229.out 2) | (go_at_call 16; (with_reducible refine (halyardlaw18_alive.calls  t264 _ A142.out).mono ?_); rintro e w155 ⟨rfl, hb⟩; have n0_ := Aside0.mk (blk_below (g := gb229) (o := .cells #[.int .u8 a4_0, .int .u8 a4_1, .string a4_2] 25 (0, 0)) (by (with_reducible repeat (first | refine blk_drewN ?_ _ | refine blk_drew ?_ | refine blk_alloc ?_ _)); refine blk_far ?_ NB229_263.out _; (with_reducible repeat (first | refine blk_drewN ?_ _ | refine blk_drew ?_ | refine blk_alloc ?_ _)); refine blk_far ?_ NB229_263.out _; (with_reducible repeat (first | refine blk_drewN ?_ _ | refine blk_drew ?_ | refine blk_alloc ?_ _)); refine blk_far ?_ NB229_263.out _; (with_reducible repeat (first | refine blk_drewN ?_ _ | refine blk_drew ?_ | refine blk_alloc ?_ _)); exact BK229.out) hb); have n1_ := Aside0.mk (blk_below (g := gb235) (o := .cells #[.int .u8 t231, .int .u8 t232, .string t233] 25 (0, 0)) (by (with_reducible repeat (first | refine blk_drewN ?_ _ | refine blk_drew ?_ | refine blk_alloc ?_ _)); refine blk_far ?_ NB235_263.out _; (with_reducible repeat (first | refine blk_drewN ?_ _ | refine blk_drew ?_ | refine blk_alloc ?_ _)); refine blk_far ?_ NB235_263.out _; (with_reducible repeat (first | refine blk_drewN ?_ _ | refine blk_drew ?_ | refine blk_alloc ?_ _)); refine blk_far ?_ NB235_263.out _; (with_reducible repeat (first | refine blk_drewN ?_ _ | refine blk_drew ?_ | refine blk_alloc ?_ _)); exact BK235.out) hb); have n2_ := Aside0.mk (blk_below (g := gb244) (o := .cells #[.int .u8 t240, .int .u8 t241, .string t242] 25 (0, 0)) (by (with_reducible repeat (first | refine blk_drewN ?_ _ | refine blk_drew ?_ | refine blk_alloc ?_ _)); refine blk_far ?_ NB244_263.out _; (with_reducible repeat (first | refine blk_drewN ?_ _ | refine blk_drew ?_ | refine blk_alloc ?_ _)); refine blk_far ?_ NB244_263.out _; (with_reducible repeat (first | refine blk_drewN ?_ _ | refine blk_drew ?_ | refine blk_alloc ?_ _)); refine blk_far ?_ NB244_263.out _; (with_reducible repeat (first | refine blk_drewN ?_ _ | refine blk_drew ?_ | refine blk_alloc ?_ _)); exact BK244.out) hb); have n3_ := Aside0.mk (blk_below (g := gb263) (o := .cells #[.int .u8 t259, .int .u8 t260, .string t261] 25 (0, 0)) (by (with_reducible repeat (first | refine blk_drewN ?_ _ | refine blk_drew ?_ | refine blk_alloc ?_ _)); refine blk_put (cs := #[.int .u8 t259, .int .u8 t260, .string (⟨#[]⟩ : ByteArray)]) ?_ 2 _ rfl; (with_reducible repeat (first | refine blk_drewN ?_ _ | refine blk_drew ?_ | refine blk_alloc ?_ _)); refine blk_put (cs := #[.int .u8 t259, .int .u8 0, .string (⟨#[]⟩ : ByteArray)]) ?_ 1 _ rfl; (with_reducible repeat (first | refine blk_drewN ?_ _ | refine blk_drew ?_ | refine blk_alloc ?_ _)); refine blk_put (cs := #[.int .u8 0, .int .u8 0, .string (⟨#[]⟩ : ByteArray)]) ?_ 0 _ rfl; (with_reducible repeat (first | refine blk_drewN ?_ _ | refine blk_drew ?_ | refine blk_alloc ?_ _)); exact BK263.out) hb); have n4_ := Aside0.mk (below_step (by repeat (first | (with_reducible first | exact HB.out | apply below_alloc | apply pw_below_drewN | apply below_drew1 | refine below_set ?_ GE229.out | refine below_set ?_ GE235.out | refine below_set ?_ GE244.out | refine below_set ?_ GE263.out) | exact HB.out)) hb); clear BK229; clear BK235; clear BK244; clear BK263; clear HB; have BK229 := n0_; have BK235 := n1_; have BK244 := n2_; have BK263 := n3_; have HB := n4_; clear n0_ n1_ n2_ n3_ n4_; (try clear hb); (try clear hb2); (try clear hk); (try clear hi)))
                        go_ret
                        exact ⟨by first | rfl | (simp [errW_none, errW_some] <;> rfl) | (simp [*, errW_none, errW_some] <;> rfl), by repeat (first | (with_reducible first | exact HB.out | apply below_alloc | apply pw_below_drewN | apply below_drew1 | refine below_set ?_ GE229.out | refine below_set ?_ GE235.out | refine below_set ?_ GE244.out | refine below_set ?_ GE263.out) | exact HB.out)⟩
                      · rw [if_neg c141] at H
                        have c141b0 : (t250 == 0) = false := beq_eq_false_iff_ne.mpr c141
                        have c141b1 : (t250 != 0) = true := bne_iff_ne.mpr c141
                        by_cases c156 : t248.toList = ([] : List UInt8)
                        · rw [if_pos c156] at H
                          have c156b0 : (t248.toList == ([] : List UInt8)) = true := beq_iff_eq.mpr c156
                          have c156b1 : (t248.toList != ([] : List UInt8)) = false := bne_eq_false_iff_eq.mpr c156
                          clear c156
                          by_cases c157 : t249.toList = ([] : List UInt8)
                          · rw [if_pos c157] at H
                            have c157b0 : (t249.toList == ([] : List UInt8)) = true := beq_iff_eq.mpr c157
                            have c157b1 : (t249.toList != ([] : List UInt8)) = false := bne_eq_false_iff_eq.mpr c157
                            clear c157
                            replace H := Option.bind_eq_some_iff.mp H
                            obtain ⟨t265, A1580, H⟩ := H
                            replace H : (some t265) = some r := H
                            have A158 := Aside0.mk A1580
                            clear A1580
                            obtain rfl := Option.some.inj H
                            have hnb159 := NB229_235.out
                            have hnc159 := NB235_229.out
                            have hnb160 := NB229_244.out
                            have hnc160 := NB244_229.out
                            have hcz161_0 : wc.cell? ⟨gb229, 0, none⟩ = some (.int .u8 a4_0) := (blk_cell BK229.out 0).trans rfl
                            have hcz161_1 : wc.cell? ⟨gb229, 1, none⟩ = some (.int .u8 a4_1) := (blk_cell BK229.out 1).trans rfl
                            have hcz161_2 : wc.cell? ⟨gb229, 2, none⟩ = some (.string a4_2) := (blk_cell BK229.out 2).trans rfl
                            have hfz161_0 := blk_frozen BK229.out 0
                            have hfz161_1 := blk_frozen BK229.out 1
                            have hfz161_2 := blk_frozen BK229.out 2
                            go_wp2_with (first | ((with_reducible refine gate_callee (f := 24) rfl ?_); refine goesL_ (some 140) rfl rfl Try.func24 (by kernel_rfl) rfl #[.agg #[.int .u8 a4_0, .int .u8 a4_1, .string a4_2]] rfl (by (try simp only [List.map_toArray, List.map_cons, List.map_nil]); first | done | rfl | (simp only [List.length_drop, List.length_take]; rfl)) ?_; (with_reducible refine (pap_Answered.calls kj85 a4_0 a4_1 a4_2 t256 t257 t258 _ A124.out).mono ?_); rintro e w162 ⟨rfl, hb⟩; refine ⟨_, rfl, ?_⟩; have n0_ := Aside0.mk (blk_below (g := gb229) (o := .cells #[.int .u8 a4_0, .int .u8 a4_1, .string a4_2] 25 (0, 0)) (by (with_reducible repeat (first | refine blk_drewN ?_ _ | refine blk_drew ?_ | refine blk_alloc ?_ _)); exact BK229.out) hb); have n1_ := Aside0.mk (blk_below (g := gb235) (o := .cells #[.int .u8 t231, .int .u8 t232, .string t233] 25 (0, 0)) (by (with_reducible repeat (first | refine blk_drewN ?_ _ | refine blk_drew ?_ | refine blk_alloc ?_ _)); exact BK235.out) hb); have n2_ := Aside0.mk (blk_below (g := gb244) (o := .cells #[.int .u8 t240, .int .u8 t241, .string t242] 25 (0, 0)) (by (with_reducible repeat (first | refine blk_drewN ?_ _ | refine blk_drew ?_ | refine blk_alloc ?_ _)); exact BK244.out) hb); have n3_ := Aside0.mk (below_step (by repeat (first | (with_reducible first | exact HB.out | apply below_alloc | apply pw_below_drewN | apply below_drew1 | refine below_set ?_ GE229.out | refine below_set ?_ GE235.out | refine below_set ?_ GE244.out) | exact HB.out)) hb); clear BK229; clear BK235; clear BK244; clear HB; have BK229 := n0_; have BK235 := n1_; have BK244 := n2_; have HB := n3_; clear n0_ n1_ n2_ n3_; (try clear hb); (try clear hb2); (try clear hk); (try clear hi); have hcz163_0 : w162.cell? ⟨gb229, 0, none⟩ = some (.int .u8 a4_0) := (blk_cell BK229.out 0).trans rfl; have hcz163_1 : w162.cell? ⟨gb229, 1, none⟩ = some (.int .u8 a4_1) := (blk_cell BK229.out 1).trans rfl; have hcz163_2 : w162.cell? ⟨gb229, 2, none⟩ = some (.string a4_2) := (blk_cell BK229.out 2).trans rfl; have hfz163_0 := blk_frozen BK229.out 0; have hfz163_1 := blk_frozen BK229.out 1; have hfz163_2 := blk_frozen BK229.out 2) | ((with_reducible refine gate_callee (f := 21) rfl ?_); refine goesL_ (some 151) rfl rfl Try.func21 (by kernel_rfl) rfl #[.int .u8 a4_1, .bool t256, .string t257] rfl (by (try simp only [List.map_toArray, List.map_cons, List.map_nil]); first | done | rfl | (simp only [List.length_drop, List.length_take]; rfl)) ?_; (with_reducible refine (pap_Answer.calls a4_1 t256 t257 t259 t260 t261 t262 _ A126.out).mono ?_); rintro e w164 ⟨rfl, hb⟩; refine ⟨_, rfl, ?_⟩; have n0_ := Aside0.mk (blk_below (g := gb229) (o := .cells #[.int .u8 a4_0, .int .u8 a4_1, .string a4_2] 25 (0, 0)) (by (with_reducible repeat (first | refine blk_drewN ?_ _ | refine blk_drew ?_ | refine blk_alloc ?_ _)); exact BK229.out) hb); have n1_ := Aside0.mk (blk_below (g := gb235) (o := .cells #[.int .u8 t231, .int .u8 t232, .string t233] 25 (0, 0)) (by (with_reducible repeat (first | refine blk_drewN ?_ _ | refine blk_drew ?_ | refine blk_alloc ?_ _)); exact BK235.out) hb); have n2_ := Aside0.mk (blk_below (g := gb244) (o := .cells #[.int .u8 t240, .int .u8 t241, .string t242] 25 (0, 0)) (by (with_reducible repeat (first | refine blk_drewN ?_ _ | refine blk_drew ?_ | refine blk_alloc ?_ _)); exact BK244.out) hb); have n3_ := Aside0.mk (below_step (by repeat (first | (with_reducible first | exact HB.out | apply below_alloc | apply pw_below_drewN | apply below_drew1 | refine below_set ?_ GE229.out | refine below_set ?_ GE235.out | refine below_set ?_ GE244.out) | exact HB.out)) hb); clear BK229; clear BK235; clear BK244; clear HB; have BK229 := n0_; have BK235 := n1_; have BK244 := n2_; have HB := n3_; clear n0_ n1_ n2_ n3_; (try clear hb); (try clear hb2); (try clear hk); (try clear hi)) | ((with_reducible refine gate_dst (N := 29) rfl ?_); refine box_event ?hg (N := 29) ?hd (cs := #[.int .u8 0, .int .u8 0, .string (⟨#[]⟩ : ByteArray)]) (t := 25) ?hr ?_; (case hd => rfl); (case hg => rfl); (case hr => first | (go_simp; done) | (go_simp; rfl)); intro gb263 hg w165 hbox hb; have n0_ := Aside0.mk (blk_below (g := gb229) (o := .cells #[.int .u8 a4_0, .int .u8 a4_1, .string a4_2] 25 (0, 0)) (by (with_reducible repeat (first | refine blk_drewN ?_ _ | refine blk_drew ?_ | refine blk_alloc ?_ _)); exact BK229.out) hb); have n1_ := Aside0.mk (blk_below (g := gb235) (o := .cells #[.int .u8 t231, .int .u8 t232, .string t233] 25 (0, 0)) (by (with_reducible repeat (first | refine blk_drewN ?_ _ | refine blk_drew ?_ | refine blk_alloc ?_ _)); exact BK235.out) hb); have n2_ := Aside0.mk (blk_below (g := gb244) (o := .cells #[.int .u8 t240, .int .u8 t241, .string t242] 25 (0, 0)) (by (with_reducible repeat (first | refine blk_drewN ?_ _ | refine blk_drew ?_ | refine blk_alloc ?_ _)); exact BK244.out) hb); have n3_ := Aside0.mk (below_step (by repeat (first | (with_reducible first | exact HB.out | apply below_alloc | apply pw_below_drewN | apply below_drew1 | refine below_set ?_ GE229.out | refine below_set ?_ GE235.out | refine below_set ?_ GE244.out) | exact HB.out)) hb); have n4_ := Aside0.mk (hbox); have n5_ := Aside0.mk ((by rw [hg]; exact (below_size (by repeat (first | (with_reducible first | exact HB.out | apply below_alloc | apply pw_below_drewN | apply below_drew1 | refine below_set ?_ GE229.out | refine below_set ?_ GE235.out | refine below_set ?_ GE244.out) | exact HB.out))) : w.heap.size ≤ gb263)); have n6_ := Aside0.mk ((by rw [hg]; exact (below_size (by repeat (first | (with_reducible first | exact HB.out | apply below_alloc | apply pw_below_drewN | apply below_drew1 | refine below_set ?_ GE229.out | refine below_set ?_ GE235.out | refine below_set ?_ GE244.out) | exact HB.out))) : w.heap.size ≤ gb263)); have n7_ := Aside0.mk ((by rw [hg]; exact Nat.ne_of_lt (blk_lt (g := gb229) (o := .cells #[.int .u8 a4_0, .int .u8 a4_1, .string a4_2] 25 (0, 0)) (by (with_reducible repeat (first | refine blk_drewN ?_ _ | refine blk_drew ?_ | refine blk_alloc ?_ _)); exact BK229.out)) : gb229 ≠ gb263)); have n8_ := Aside0.mk ((by rw [hg]; exact Nat.ne_of_gt (blk_lt (g := gb229) (o := .cells #[.int .u8 a4_0, .int .u8 a4_1, .string a4_2] 25 (0, 0)) (by (with_reducible repeat (first | refine blk_drewN ?_ _ | refine blk_drew ?_ | refine blk_alloc ?_ _)); exact BK229.out)) : gb263 ≠ gb229)); have n9_ := Aside0.mk ((by rw [hg]; exact Nat.ne_of_lt (blk_lt (g := gb235) (o := .cells #[.int .u8 t231, .int .u8 t232, .string t233] 25 (0, 0)) (by (with_reducible repeat (first | refine blk_drewN ?_ _ | refine blk_drew ?_ | refine blk_alloc ?_ _)); exact BK235.out)) : gb235 ≠ gb263)); have n10_ := Aside0.mk ((by rw [hg]; exact Nat.ne_of_gt (blk_lt (g := gb235) (o := .cells #[.int .u8 t231, .int .u8 t232, .string t233] 25 (0, 0)) (by (with_reducible repeat (first | refine blk_drewN ?_ _ | refine blk_drew ?_ | refine blk_alloc ?_ _)); exact BK235.out)) : gb263 ≠ gb235)); have n11_ := Aside0.mk ((by rw [hg]; exact Nat.ne_of_lt (blk_lt (g := gb244) (o := .cells #[.int .u8 t240, .int .u8 t241, .string t242] 25 (0, 0)) (by (with_reducible repeat (first | refine blk_drewN ?_ _ | refine blk_drew ?_ | refine blk_alloc ?_ _)); exact BK244.out)) : gb244 ≠ gb263)); have n12_ := Aside0.mk ((by rw [hg]; exact Nat.ne_of_gt (blk_lt (g := gb244) (o := .cells #[.int .u8 t240, .int .u8 t241, .string t242] 25 (0, 0)) (by (with_reducible repeat (first | refine blk_drewN ?_ _ | refine blk_drew ?_ | refine blk_alloc ?_ _)); exact BK244.out)) : gb263 ≠ gb244)); clear BK229; clear BK235; clear BK244; clear HB; have BK229 := n0_; have BK235 := n1_; have BK244 := n2_; have HB := n3_; have BK263 := n4_; have GW263 := n5_; have GE263 := n6_; have NB229_263 := n7_; have NB263_229 := n8_; have NB235_263 := n9_; have NB263_235 := n10_; have NB244_263 := n11_; have NB263_244 := n12_; clear n0_ n1_ n2_ n3_ n4_ n5_ n6_ n7_ n8_ n9_ n10_ n11_ n12_; clear hb hbox hg; have hnb166 := NB263_229.out; have hnc166 := NB229_263.out; have hnb167 := NB263_235.out; have hnc167 := NB235_263.out; have hnb168 := NB263_244.out; have hnc168 := NB244_263.out; have hcz169_0 : w165.cell? ⟨gb263, 0, none⟩ = some (.int .u8 0) := (blk_cell BK263.out 0).trans rfl; have hcz169_1 : w165.cell? ⟨gb263, 1, none⟩ = some (.int .u8 0) := (blk_cell BK263.out 1).trans rfl; have hcz169_2 : w165.cell? ⟨gb263, 2, none⟩ = some (.string (⟨#[]⟩ : ByteArray)) := (blk_cell BK263.out 2).trans rfl; have hfz169_0 := blk_frozen BK263.out 0; have hfz169_1 := blk_frozen BK263.out 1; have hfz169_2 := blk_frozen BK263.out 2; have hcz170_0 : w165.cell? ⟨gb229, 0, none⟩ = some (.int .u8 a4_0) := (blk_cell BK229.out 0).trans rfl; have hcz170_1 : w165.cell? ⟨gb229, 1, none⟩ = some (.int .u8 a4_1) := (blk_cell BK229.out 1).trans rfl; have hcz170_2 : w165.cell? ⟨gb229, 2, none⟩ = some (.string a4_2) := (blk_cell BK229.out 2).trans rfl; have hfz170_0 := blk_frozen BK229.out 0; have hfz170_1 := blk_frozen BK229.out 1; have hfz170_2 := blk_frozen BK229.out 2) | (go_at_call 16; (with_reducible refine (halyardlaw18_alive.calls  t265 _ A158.out).mono ?_); rintro e w171 ⟨rfl, hb⟩; have n0_ := Aside0.mk (blk_below (g := gb229) (o := .cells #[.int .u8 a4_0, .int .u8 a4_1, .string a4_2] 25 (0, 0)) (by (with_reducible repeat (first | refine blk_drewN ?_ _ | refine blk_drew ?_ | refine blk_alloc ?_ _)); refine blk_far ?_ NB229_263.out _; (with_reducible repeat (first | refine blk_drewN ?_ _ | refine blk_drew ?_ | refine blk_alloc ?_ _)); refine blk_far ?_ NB229_263.out _; (with_reducible repeat (first | refine blk_drewN ?_ _ | refine blk_drew ?_ | refine blk_alloc ?_ _)); refine blk_far ?_ NB229_263.out _; (with_reducible repeat (first | refine blk_drewN ?_ _ | refine blk_drew ?_ | refine blk_alloc ?_ _)); exact BK229.out) hb); have n1_ := Aside0.mk (blk_below (g := gb235) (o := .cells #[.int .u8 t231, .int .u8 t232, .string t233] 25 (0, 0)) (by (with_reducible repeat (first | refine blk_drewN ?_ _ | refine blk_drew ?_ | refine blk_alloc ?_ _)); refine blk_far ?_ NB235_263.out _; (with_reducible repeat (first | refine blk_drewN ?_ _ | refine blk_drew ?_ | refine blk_alloc ?_ _)); refine blk_far ?_ NB235_263.out _; (with_reducible repeat (first | refine blk_drewN ?_ _ | refine blk_drew ?_ | refine blk_alloc ?_ _)); refine blk_far ?_ NB235_263.out _; (with_reducible repeat (first | refine blk_drewN ?_ _ | refine blk_drew ?_ | refine blk_alloc ?_ _)); exact BK235.out) hb); have n2_ := Aside0.mk (blk_below (g := gb244) (o := .cells #[.int .u8 t240, .int .u8 t241, .string t242] 25 (0, 0)) (by (with_reducible repeat (first | refine blk_drewN ?_ _ | refine blk_drew ?_ | refine blk_alloc ?_ _)); refine blk_far ?_ NB244_263.out _; (with_reducible repeat (first | refine blk_drewN ?_ _ | refine blk_drew ?_ | refine blk_alloc ?_ _)); refine blk_far ?_ NB244_263.out _; (with_reducible repeat (first | refine blk_drewN ?_ _ | refine blk_drew ?_ | refine blk_alloc ?_ _)); refine blk_far ?_ NB244_263.out _; (with_reducible repeat (first | refine blk_drewN ?_ _ | refine blk_drew ?_ | refine blk_alloc ?_ _)); exact BK244.out) hb); have n3_ := Aside0.mk (blk_below (g := gb263) (o := .cells #[.int .u8 t259, .int .u8 t260, .string t261] 25 (0, 0)) (by (with_reducible repeat (first | refine blk_drewN ?_ _ | refine blk_drew ?_ | refine blk_alloc ?_ _)); refine blk_put (cs := #[.int .u8 t259, .int .u8 t260, .string (⟨#[]⟩ : ByteArray)]) ?_ 2 _ rfl; (with_reducible repeat (first | refine blk_drewN ?_ _ | refine blk_drew ?_ | refine blk_alloc ?_ _)); refine blk_put (cs := #[.int .u8 t259, .int .u8 0, .string (⟨#[]⟩ : ByteArray)]) ?_ 1 _ rfl; (with_reducible repeat (first | refine blk_drewN ?_ _ | refine blk_drew ?_ | refine blk_alloc ?_ _)); refine blk_put (cs := #[.int .u8 0, .int .u8 0, .string (⟨#[]⟩ : ByteArray)]) ?_ 0 _ rfl; (with_reducible repeat (first | refine blk_drewN ?_ _ | refine blk_drew ?_ | refine blk_alloc ?_ _)); exact BK263.out) hb); have n4_ := Aside0.mk (below_step (by repeat (first | (with_reducible first | exact HB.out | apply below_alloc | apply pw_below_drewN | apply below_drew1 | refine below_set ?_ GE229.out | refine below_set ?_ GE235.out | refine below_set ?_ GE244.out | refine below_set ?_ GE263.out) | exact HB.out)) hb); clear BK229; clear BK235; clear BK244; clear BK263; clear HB; have BK229 := n0_; have BK235 := n1_; have BK244 := n2_; have BK263 := n3_; have HB := n4_; clear n0_ n1_ n2_ n3_ n4_; (try clear hb); (try clear hb2); (try clear hk); (try clear hi)))
                            go_ret
                            exact ⟨by first | rfl | (simp [errW_none, errW_some] <;> rfl) | (simp [*, errW_none, errW_some] <;> rfl), by repeat (first | (with_reducible first | exact HB.out | apply below_alloc | apply pw_below_drewN | apply below_drew1 | refine below_set ?_ GE229.out | refine below_set ?_ GE235.out | refine below_set ?_ GE244.out | refine below_set ?_ GE263.out) | exact HB.out)⟩
                          · rw [if_neg c157] at H
                            have c157b0 : (t249.toList == ([] : List UInt8)) = false := beq_eq_false_iff_ne.mpr c157
                            have c157b1 : (t249.toList != ([] : List UInt8)) = true := bne_iff_ne.mpr c157
                            obtain rfl := Option.some.inj H
                            have hnb172 := NB229_235.out
                            have hnc172 := NB235_229.out
                            have hnb173 := NB229_244.out
                            have hnc173 := NB244_229.out
                            have hcz174_0 : wc.cell? ⟨gb229, 0, none⟩ = some (.int .u8 a4_0) := (blk_cell BK229.out 0).trans rfl
                            have hcz174_1 : wc.cell? ⟨gb229, 1, none⟩ = some (.int .u8 a4_1) := (blk_cell BK229.out 1).trans rfl
                            have hcz174_2 : wc.cell? ⟨gb229, 2, none⟩ = some (.string a4_2) := (blk_cell BK229.out 2).trans rfl
                            have hfz174_0 := blk_frozen BK229.out 0
                            have hfz174_1 := blk_frozen BK229.out 1
                            have hfz174_2 := blk_frozen BK229.out 2
                            go_wp2_with (first | ((with_reducible refine gate_callee (f := 24) rfl ?_); refine goesL_ (some 140) rfl rfl Try.func24 (by kernel_rfl) rfl #[.agg #[.int .u8 a4_0, .int .u8 a4_1, .string a4_2]] rfl (by (try simp only [List.map_toArray, List.map_cons, List.map_nil]); first | done | rfl | (simp only [List.length_drop, List.length_take]; rfl)) ?_; (with_reducible refine (pap_Answered.calls kj85 a4_0 a4_1 a4_2 t256 t257 t258 _ A124.out).mono ?_); rintro e w175 ⟨rfl, hb⟩; refine ⟨_, rfl, ?_⟩; have n0_ := Aside0.mk (blk_below (g := gb229) (o := .cells #[.int .u8 a4_0, .int .u8 a4_1, .string a4_2] 25 (0, 0)) (by (with_reducible repeat (first | refine blk_drewN ?_ _ | refine blk_drew ?_ | refine blk_alloc ?_ _)); exact BK229.out) hb); have n1_ := Aside0.mk (blk_below (g := gb235) (o := .cells #[.int .u8 t231, .int .u8 t232, .string t233] 25 (0, 0)) (by (with_reducible repeat (first | refine blk_drewN ?_ _ | refine blk_drew ?_ | refine blk_alloc ?_ _)); exact BK235.out) hb); have n2_ := Aside0.mk (blk_below (g := gb244) (o := .cells #[.int .u8 t240, .int .u8 t241, .string t242] 25 (0, 0)) (by (with_reducible repeat (first | refine blk_drewN ?_ _ | refine blk_drew ?_ | refine blk_alloc ?_ _)); exact BK244.out) hb); have n3_ := Aside0.mk (below_step (by repeat (first | (with_reducible first | exact HB.out | apply below_alloc | apply pw_below_drewN | apply below_drew1 | refine below_set ?_ GE229.out | refine below_set ?_ GE235.out | refine below_set ?_ GE244.out) | exact HB.out)) hb); clear BK229; clear BK235; clear BK244; clear HB; have BK229 := n0_; have BK235 := n1_; have BK244 := n2_; have HB := n3_; clear n0_ n1_ n2_ n3_; (try clear hb); (try clear hb2); (try clear hk); (try clear hi); have hcz176_0 : w175.cell? ⟨gb229, 0, none⟩ = some (.int .u8 a4_0) := (blk_cell BK229.out 0).trans rfl; have hcz176_1 : w175.cell? ⟨gb229, 1, none⟩ = some (.int .u8 a4_1) := (blk_cell BK229.out 1).trans rfl; have hcz176_2 : w175.cell? ⟨gb229, 2, none⟩ = some (.string a4_2) := (blk_cell BK229.out 2).trans rfl; have hfz176_0 := blk_frozen BK229.out 0; have hfz176_1 := blk_frozen BK229.out 1; have hfz176_2 := blk_frozen BK229.out 2) | ((with_reducible refine gate_callee (f := 21) rfl ?_); refine goesL_ (some 151) rfl rfl Try.func21 (by kernel_rfl) rfl #[.int .u8 a4_1, .bool t256, .string t257] rfl (by (try simp only [List.map_toArray, List.map_cons, List.map_nil]); first | done | rfl | (simp only [List.length_drop, List.length_take]; rfl)) ?_; (with_reducible refine (pap_Answer.calls a4_1 t256 t257 t259 t260 t261 t262 _ A126.out).mono ?_); rintro e w177 ⟨rfl, hb⟩; refine ⟨_, rfl, ?_⟩; have n0_ := Aside0.mk (blk_below (g := gb229) (o := .cells #[.int .u8 a4_0, .int .u8 a4_1, .string a4_2] 25 (0, 0)) (by (with_reducible repeat (first | refine blk_drewN ?_ _ | refine blk_drew ?_ | refine blk_alloc ?_ _)); exact BK229.out) hb); have n1_ := Aside0.mk (blk_below (g := gb235) (o := .cells #[.int .u8 t231, .int .u8 t232, .string t233] 25 (0, 0)) (by (with_reducible repeat (first | refine blk_drewN ?_ _ | refine blk_drew ?_ | refine blk_alloc ?_ _)); exact BK235.out) hb); have n2_ := Aside0.mk (blk_below (g := gb244) (o := .cells #[.int .u8 t240, .int .u8 t241, .string t242] 25 (0, 0)) (by (with_reducible repeat (first | refine blk_drewN ?_ _ | refine blk_drew ?_ | refine blk_alloc ?_ _)); exact BK244.out) hb); have n3_ := Aside0.mk (below_step (by repeat (first | (with_reducible first | exact HB.out | apply below_alloc | apply pw_below_drewN | apply below_drew1 | refine below_set ?_ GE229.out | refine below_set ?_ GE235.out | refine below_set ?_ GE244.out) | exact HB.out)) hb); clear BK229; clear BK235; clear BK244; clear HB; have BK229 := n0_; have BK235 := n1_; have BK244 := n2_; have HB := n3_; clear n0_ n1_ n2_ n3_; (try clear hb); (try clear hb2); (try clear hk); (try clear hi)) | ((with_reducible refine gate_dst (N := 29) rfl ?_); refine box_event ?hg (N := 29) ?hd (cs := #[.int .u8 0, .int .u8 0, .string (⟨#[]⟩ : ByteArray)]) (t := 25) ?hr ?_; (case hd => rfl); (case hg => rfl); (case hr => first | (go_simp; done) | (go_simp; rfl)); intro gb263 hg w178 hbox hb; have n0_ := Aside0.mk (blk_below (g := gb229) (o := .cells #[.int .u8 a4_0, .int .u8 a4_1, .string a4_2] 25 (0, 0)) (by (with_reducible repeat (first | refine blk_drewN ?_ _ | refine blk_drew ?_ | refine blk_alloc ?_ _)); exact BK229.out) hb); have n1_ := Aside0.mk (blk_below (g := gb235) (o := .cells #[.int .u8 t231, .int .u8 t232, .string t233] 25 (0, 0)) (by (with_reducible repeat (first | refine blk_drewN ?_ _ | refine blk_drew ?_ | refine blk_alloc ?_ _)); exact BK235.out) hb); have n2_ := Aside0.mk (blk_below (g := gb244) (o := .cells #[.int .u8 t240, .int .u8 t241, .string t242] 25 (0, 0)) (by (with_reducible repeat (first | refine blk_drewN ?_ _ | refine blk_drew ?_ | refine blk_alloc ?_ _)); exact BK244.out) hb); have n3_ := Aside0.mk (below_step (by repeat (first | (with_reducible first | exact HB.out | apply below_alloc | apply pw_below_drewN | apply below_drew1 | refine below_set ?_ GE229.out | refine below_set ?_ GE235.out | refine below_set ?_ GE244.out) | exact HB.out)) hb); have n4_ := Aside0.mk (hbox); have n5_ := Aside0.mk ((by rw [hg]; exact (below_size (by repeat (first | (with_reducible first | exact HB.out | apply below_alloc | apply pw_below_drewN | apply below_drew1 | refine below_set ?_ GE229.out | refine below_set ?_ GE235.out | refine below_set ?_ GE244.out) | exact HB.out))) : w.heap.size ≤ gb263)); have n6_ := Aside0.mk ((by rw [hg]; exact (below_size (by repeat (first | (with_reducible first | exact HB.out | apply below_alloc | apply pw_below_drewN | apply below_drew1 | refine below_set ?_ GE229.out | refine below_set ?_ GE235.out | refine below_set ?_ GE244.out) | exact HB.out))) : w.heap.size ≤ gb263)); have n7_ := Aside0.mk ((by rw [hg]; exact Nat.ne_of_lt (blk_lt (g := gb229) (o := .cells #[.int .u8 a4_0, .int .u8 a4_1, .string a4_2] 25 (0, 0)) (by (with_reducible repeat (first | refine blk_drewN ?_ _ | refine blk_drew ?_ | refine blk_alloc ?_ _)); exact BK229.out)) : gb229 ≠ gb263)); have n8_ := Aside0.mk ((by rw [hg]; exact Nat.ne_of_gt (blk_lt (g := gb229) (o := .cells #[.int .u8 a4_0, .int .u8 a4_1, .string a4_2] 25 (0, 0)) (by (with_reducible repeat (first | refine blk_drewN ?_ _ | refine blk_drew ?_ | refine blk_alloc ?_ _)); exact BK229.out)) : gb263 ≠ gb229)); have n9_ := Aside0.mk ((by rw [hg]; exact Nat.ne_of_lt (blk_lt (g := gb235) (o := .cells #[.int .u8 t231, .int .u8 t232, .string t233] 25 (0, 0)) (by (with_reducible repeat (first | refine blk_drewN ?_ _ | refine blk_drew ?_ | refine blk_alloc ?_ _)); exact BK235.out)) : gb235 ≠ gb263)); have n10_ := Aside0.mk ((by rw [hg]; exact Nat.ne_of_gt (blk_lt (g := gb235) (o := .cells #[.int .u8 t231, .int .u8 t232, .string t233] 25 (0, 0)) (by (with_reducible repeat (first | refine blk_drewN ?_ _ | refine blk_drew ?_ | refine blk_alloc ?_ _)); exact BK235.out)) : gb263 ≠ gb235)); have n11_ := Aside0.mk ((by rw [hg]; exact Nat.ne_of_lt (blk_lt (g := gb244) (o := .cells #[.int .u8 t240, .int .u8 t241, .string t242] 25 (0, 0)) (by (with_reducible repeat (first | refine blk_drewN ?_ _ | refine blk_drew ?_ | refine blk_alloc ?_ _)); exact BK244.out)) : gb244 ≠ gb263)); have n12_ := Aside0.mk ((by rw [hg]; exact Nat.ne_of_gt (blk_lt (g := gb244) (o := .cells #[.int .u8 t240, .int .u8 t241, .string t242] 25 (0, 0)) (by (with_reducible repeat (first | refine blk_drewN ?_ _ | refine blk_drew ?_ | refine blk_alloc ?_ _)); exact BK244.out)) : gb263 ≠ gb244)); clear BK229; clear BK235; clear BK244; clear HB; have BK229 := n0_; have BK235 := n1_; have BK244 := n2_; have HB := n3_; have BK263 := n4_; have GW263 := n5_; have GE263 := n6_; have NB229_263 := n7_; have NB263_229 := n8_; have NB235_263 := n9_; have NB263_235 := n10_; have NB244_263 := n11_; have NB263_244 := n12_; clear n0_ n1_ n2_ n3_ n4_ n5_ n6_ n7_ n8_ n9_ n10_ n11_ n12_; clear hb hbox hg; have hnb179 := NB263_229.out; have hnc179 := NB229_263.out; have hnb180 := NB263_235.out; have hnc180 := NB235_263.out; have hnb181 := NB263_244.out; have hnc181 := NB244_263.out; have hcz182_0 : w178.cell? ⟨gb263, 0, none⟩ = some (.int .u8 0) := (blk_cell BK263.out 0).trans rfl; have hcz182_1 : w178.cell? ⟨gb263, 1, none⟩ = some (.int .u8 0) := (blk_cell BK263.out 1).trans rfl; have hcz182_2 : w178.cell? ⟨gb263, 2, none⟩ = some (.string (⟨#[]⟩ : ByteArray)) := (blk_cell BK263.out 2).trans rfl; have hfz182_0 := blk_frozen BK263.out 0; have hfz182_1 := blk_frozen BK263.out 1; have hfz182_2 := blk_frozen BK263.out 2; have hcz183_0 : w178.cell? ⟨gb229, 0, none⟩ = some (.int .u8 a4_0) := (blk_cell BK229.out 0).trans rfl; have hcz183_1 : w178.cell? ⟨gb229, 1, none⟩ = some (.int .u8 a4_1) := (blk_cell BK229.out 1).trans rfl; have hcz183_2 : w178.cell? ⟨gb229, 2, none⟩ = some (.string a4_2) := (blk_cell BK229.out 2).trans rfl; have hfz183_0 := blk_frozen BK229.out 0; have hfz183_1 := blk_frozen BK229.out 1; have hfz183_2 := blk_frozen BK229.out 2))
                            go_ret
                            exact ⟨by first | rfl | (simp [errW_none, errW_some] <;> rfl) | (simp [*, errW_none, errW_some] <;> rfl), by repeat (first | (with_reducible first | exact HB.out | apply below_alloc | apply pw_below_drewN | apply below_drew1 | refine below_set ?_ GE229.out | refine below_set ?_ GE235.out | refine below_set ?_ GE244.out | refine below_set ?_ GE263.out) | exact HB.out)⟩
                        · rw [if_neg c156] at H
                          have c156b0 : (t248.toList == ([] : List UInt8)) = false := beq_eq_false_iff_ne.mpr c156
                          have c156b1 : (t248.toList != ([] : List UInt8)) = true := bne_iff_ne.mpr c156
                          obtain rfl := Option.some.inj H
                          have hnb184 := NB229_235.out
                          have hnc184 := NB235_229.out
                          have hnb185 := NB229_244.out
                          have hnc185 := NB244_229.out
                          have hcz186_0 : wc.cell? ⟨gb229, 0, none⟩ = some (.int .u8 a4_0) := (blk_cell BK229.out 0).trans rfl
                          have hcz186_1 : wc.cell? ⟨gb229, 1, none⟩ = some (.int .u8 a4_1) := (blk_cell BK229.out 1).trans rfl
                          have hcz186_2 : wc.cell? ⟨gb229, 2, none⟩ = some (.string a4_2) := (blk_cell BK229.out 2).trans rfl
                          have hfz186_0 := blk_frozen BK229.out 0
                          have hfz186_1 := blk_frozen BK229.out 1
                          have hfz186_2 := blk_frozen BK229.out 2
                          go_wp2_with (first | ((with_reducible refine gate_callee (f := 24) rfl ?_); refine goesL_ (some 140) rfl rfl Try.func24 (by kernel_rfl) rfl #[.agg #[.int .u8 a4_0, .int .u8 a4_1, .string a4_2]] rfl (by (try simp only [List.map_toArray, List.map_cons, List.map_nil]); first | done | rfl | (simp only [List.length_drop, List.length_take]; rfl)) ?_; (with_reducible refine (pap_Answered.calls kj85 a4_0 a4_1 a4_2 t256 t257 t258 _ A124.out).mono ?_); rintro e w187 ⟨rfl, hb⟩; refine ⟨_, rfl, ?_⟩; have n0_ := Aside0.mk (blk_below (g := gb229) (o := .cells #[.int .u8 a4_0, .int .u8 a4_1, .string a4_2] 25 (0, 0)) (by (with_reducible repeat (first | refine blk_drewN ?_ _ | refine blk_drew ?_ | refine blk_alloc ?_ _)); exact BK229.out) hb); have n1_ := Aside0.mk (blk_below (g := gb235) (o := .cells #[.int .u8 t231, .int .u8 t232, .string t233] 25 (0, 0)) (by (with_reducible repeat (first | refine blk_drewN ?_ _ | refine blk_drew ?_ | refine blk_alloc ?_ _)); exact BK235.out) hb); have n2_ := Aside0.mk (blk_below (g := gb244) (o := .cells #[.int .u8 t240, .int .u8 t241, .string t242] 25 (0, 0)) (by (with_reducible repeat (first | refine blk_drewN ?_ _ | refine blk_drew ?_ | refine blk_alloc ?_ _)); exact BK244.out) hb); have n3_ := Aside0.mk (below_step (by repeat (first | (with_reducible first | exact HB.out | apply below_alloc | apply pw_below_drewN | apply below_drew1 | refine below_set ?_ GE229.out | refine below_set ?_ GE235.out | refine below_set ?_ GE244.out) | exact HB.out)) hb); clear BK229; clear BK235; clear BK244; clear HB; have BK229 := n0_; have BK235 := n1_; have BK244 := n2_; have HB := n3_; clear n0_ n1_ n2_ n3_; (try clear hb); (try clear hb2); (try clear hk); (try clear hi); have hcz188_0 : w187.cell? ⟨gb229, 0, none⟩ = some (.int .u8 a4_0) := (blk_cell BK229.out 0).trans rfl; have hcz188_1 : w187.cell? ⟨gb229, 1, none⟩ = some (.int .u8 a4_1) := (blk_cell BK229.out 1).trans rfl; have hcz188_2 : w187.cell? ⟨gb229, 2, none⟩ = some (.string a4_2) := (blk_cell BK229.out 2).trans rfl; have hfz188_0 := blk_frozen BK229.out 0; have hfz188_1 := blk_frozen BK229.out 1; have hfz188_2 := blk_frozen BK229.out 2) | ((with_reducible refine gate_callee (f := 21) rfl ?_); refine goesL_ (some 151) rfl rfl Try.func21 (by kernel_rfl) rfl #[.int .u8 a4_1, .bool t256, .string t257] rfl (by (try simp only [List.map_toArray, List.map_cons, List.map_nil]); first | done | rfl | (simp only [List.length_drop, List.length_take]; rfl)) ?_; (with_reducible refine (pap_Answer.calls a4_1 t256 t257 t259 t260 t261 t262 _ A126.out).mono ?_); rintro e w189 ⟨rfl, hb⟩; refine ⟨_, rfl, ?_⟩; have n0_ := Aside0.mk (blk_below (g := gb229) (o := .cells #[.int .u8 a4_0, .int .u8 a4_1, .string a4_2] 25 (0, 0)) (by (with_reducible repeat (first | refine blk_drewN ?_ _ | refine blk_drew ?_ | refine blk_alloc ?_ _)); exact BK229.out) hb); have n1_ := Aside0.mk (blk_below (g := gb235) (o := .cells #[.int .u8 t231, .int .u8 t232, .string t233] 25 (0, 0)) (by (with_reducible repeat (first | refine blk_drewN ?_ _ | refine blk_drew ?_ | refine blk_alloc ?_ _)); exact BK235.out) hb); have n2_ := Aside0.mk (blk_below (g := gb244) (o := .cells #[.int .u8 t240, .int .u8 t241, .string t242] 25 (0, 0)) (by (with_reducible repeat (first | refine blk_drewN ?_ _ | refine blk_drew ?_ | refine blk_alloc ?_ _)); exact BK244.out) hb); have n3_ := Aside0.mk (below_step (by repeat (first | (with_reducible first | exact HB.out | apply below_alloc | apply pw_below_drewN | apply below_drew1 | refine below_set ?_ GE229.out | refine below_set ?_ GE235.out | refine below_set ?_ GE244.out) | exact HB.out)) hb); clear BK229; clear BK235; clear BK244; clear HB; have BK229 := n0_; have BK235 := n1_; have BK244 := n2_; have HB := n3_; clear n0_ n1_ n2_ n3_; (try clear hb); (try clear hb2); (try clear hk); (try clear hi)) | ((with_reducible refine gate_dst (N := 29) rfl ?_); refine box_event ?hg (N := 29) ?hd (cs := #[.int .u8 0, .int .u8 0, .string (⟨#[]⟩ : ByteArray)]) (t := 25) ?hr ?_; (case hd => rfl); (case hg => rfl); (case hr => first | (go_simp; done) | (go_simp; rfl)); intro gb263 hg w190 hbox hb; have n0_ := Aside0.mk (blk_below (g := gb229) (o := .cells #[.int .u8 a4_0, .int .u8 a4_1, .string a4_2] 25 (0, 0)) (by (with_reducible repeat (first | refine blk_drewN ?_ _ | refine blk_drew ?_ | refine blk_alloc ?_ _)); exact BK229.out) hb); have n1_ := Aside0.mk (blk_below (g := gb235) (o := .cells #[.int .u8 t231, .int .u8 t232, .string t233] 25 (0, 0)) (by (with_reducible repeat (first | refine blk_drewN ?_ _ | refine blk_drew ?_ | refine blk_alloc ?_ _)); exact BK235.out) hb); have n2_ := Aside0.mk (blk_below (g := gb244) (o := .cells #[.int .u8 t240, .int .u8 t241, .string t242] 25 (0, 0)) (by (with_reducible repeat (first | refine blk_drewN ?_ _ | refine blk_drew ?_ | refine blk_alloc ?_ _)); exact BK244.out) hb); have n3_ := Aside0.mk (below_step (by repeat (first | (with_reducible first | exact HB.out | apply below_alloc | apply pw_below_drewN | apply below_drew1 | refine below_set ?_ GE229.out | refine below_set ?_ GE235.out | refine below_set ?_ GE244.out) | exact HB.out)) hb); have n4_ := Aside0.mk (hbox); have n5_ := Aside0.mk ((by rw [hg]; exact (below_size (by repeat (first | (with_reducible first | exact HB.out | apply below_alloc | apply pw_below_drewN | apply below_drew1 | refine below_set ?_ GE229.out | refine below_set ?_ GE235.out | refine below_set ?_ GE244.out) | exact HB.out))) : w.heap.size ≤ gb263)); have n6_ := Aside0.mk ((by rw [hg]; exact (below_size (by repeat (first | (with_reducible first | exact HB.out | apply below_alloc | apply pw_below_drewN | apply below_drew1 | refine below_set ?_ GE229.out | refine below_set ?_ GE235.out | refine below_set ?_ GE244.out) | exact HB.out))) : w.heap.size ≤ gb263)); have n7_ := Aside0.mk ((by rw [hg]; exact Nat.ne_of_lt (blk_lt (g := gb229) (o := .cells #[.int .u8 a4_0, .int .u8 a4_1, .string a4_2] 25 (0, 0)) (by (with_reducible repeat (first | refine blk_drewN ?_ _ | refine blk_drew ?_ | refine blk_alloc ?_ _)); exact BK229.out)) : gb229 ≠ gb263)); have n8_ := Aside0.mk ((by rw [hg]; exact Nat.ne_of_gt (blk_lt (g := gb229) (o := .cells #[.int .u8 a4_0, .int .u8 a4_1, .string a4_2] 25 (0, 0)) (by (with_reducible repeat (first | refine blk_drewN ?_ _ | refine blk_drew ?_ | refine blk_alloc ?_ _)); exact BK229.out)) : gb263 ≠ gb229)); have n9_ := Aside0.mk ((by rw [hg]; exact Nat.ne_of_lt (blk_lt (g := gb235) (o := .cells #[.int .u8 t231, .int .u8 t232, .string t233] 25 (0, 0)) (by (with_reducible repeat (first | refine blk_drewN ?_ _ | refine blk_drew ?_ | refine blk_alloc ?_ _)); exact BK235.out)) : gb235 ≠ gb263)); have n10_ := Aside0.mk ((by rw [hg]; exact Nat.ne_of_gt (blk_lt (g := gb235) (o := .cells #[.int .u8 t231, .int .u8 t232, .string t233] 25 (0, 0)) (by (with_reducible repeat (first | refine blk_drewN ?_ _ | refine blk_drew ?_ | refine blk_alloc ?_ _)); exact BK235.out)) : gb263 ≠ gb235)); have n11_ := Aside0.mk ((by rw [hg]; exact Nat.ne_of_lt (blk_lt (g := gb244) (o := .cells #[.int .u8 t240, .int .u8 t241, .string t242] 25 (0, 0)) (by (with_reducible repeat (first | refine blk_drewN ?_ _ | refine blk_drew ?_ | refine blk_alloc ?_ _)); exact BK244.out)) : gb244 ≠ gb263)); have n12_ := Aside0.mk ((by rw [hg]; exact Nat.ne_of_gt (blk_lt (g := gb244) (o := .cells #[.int .u8 t240, .int .u8 t241, .string t242] 25 (0, 0)) (by (with_reducible repeat (first | refine blk_drewN ?_ _ | refine blk_drew ?_ | refine blk_alloc ?_ _)); exact BK244.out)) : gb263 ≠ gb244)); clear BK229; clear BK235; clear BK244; clear HB; have BK229 := n0_; have BK235 := n1_; have BK244 := n2_; have HB := n3_; have BK263 := n4_; have GW263 := n5_; have GE263 := n6_; have NB229_263 := n7_; have NB263_229 := n8_; have NB235_263 := n9_; have NB263_235 := n10_; have NB244_263 := n11_; have NB263_244 := n12_; clear n0_ n1_ n2_ n3_ n4_ n5_ n6_ n7_ n8_ n9_ n10_ n11_ n12_; clear hb hbox hg; have hnb191 := NB263_229.out; have hnc191 := NB229_263.out; have hnb192 := NB263_235.out; have hnc192 := NB235_263.out; have hnb193 := NB263_244.out; have hnc193 := NB244_263.out; have hcz194_0 : w190.cell? ⟨gb263, 0, none⟩ = some (.int .u8 0) := (blk_cell BK263.out 0).trans rfl; have hcz194_1 : w190.cell? ⟨gb263, 1, none⟩ = some (.int .u8 0) := (blk_cell BK263.out 1).trans rfl; have hcz194_2 : w190.cell? ⟨gb263, 2, none⟩ = some (.string (⟨#[]⟩ : ByteArray)) := (blk_cell BK263.out 2).trans rfl; have hfz194_0 := blk_frozen BK263.out 0; have hfz194_1 := blk_frozen BK263.out 1; have hfz194_2 := blk_frozen BK263.out 2; have hcz195_0 : w190.cell? ⟨gb229, 0, none⟩ = some (.int .u8 a4_0) := (blk_cell BK229.out 0).trans rfl; have hcz195_1 : w190.cell? ⟨gb229, 1, none⟩ = some (.int .u8 a4_1) := (blk_cell BK229.out 1).trans rfl; have hcz195_2 : w190.cell? ⟨gb229, 2, none⟩ = some (.string a4_2) := (blk_cell BK229.out 2).trans rfl; have hfz195_0 := blk_frozen BK229.out 0; have hfz195_1 := blk_frozen BK229.out 1; have hfz195_2 := blk_frozen BK229.out 2))
                          go_ret
                          exact ⟨by first | rfl | (simp [errW_none, errW_some] <;> rfl) | (simp [*, errW_none, errW_some] <;> rfl), by repeat (first | (with_reducible first | exact HB.out | apply below_alloc | apply pw_below_drewN | apply below_drew1 | refine below_set ?_ GE229.out | refine below_set ?_ GE235.out | refine below_set ?_ GE244.out | refine below_set ?_ GE263.out) | exact HB.out)⟩
                  · rw [if_neg c127] at H
                    have c127b0 : (t262 == 0) = false := beq_eq_false_iff_ne.mpr c127
                    have c127b1 : (t262 != 0) = true := bne_iff_ne.mpr c127
                    obtain rfl := Option.some.inj H
                    have hnb196 := NB229_235.out
                    have hnc196 := NB235_229.out
                    have hnb197 := NB229_244.out
                    have hnc197 := NB244_229.out
                    have hcz198_0 : wc.cell? ⟨gb229, 0, none⟩ = some (.int .u8 a4_0) := (blk_cell BK229.out 0).trans rfl
                    have hcz198_1 : wc.cell? ⟨gb229, 1, none⟩ = some (.int .u8 a4_1) := (blk_cell BK229.out 1).trans rfl
                    have hcz198_2 : wc.cell? ⟨gb229, 2, none⟩ = some (.string a4_2) := (blk_cell BK229.out 2).trans rfl
                    have hfz198_0 := blk_frozen BK229.out 0
                    have hfz198_1 := blk_frozen BK229.out 1
                    have hfz198_2 := blk_frozen BK229.out 2
                    go_wp2_with (first | ((with_reducible refine gate_callee (f := 24) rfl ?_); refine goesL_ (some 140) rfl rfl Try.func24 (by kernel_rfl) rfl #[.agg #[.int .u8 a4_0, .int .u8 a4_1, .string a4_2]] rfl (by (try simp only [List.map_toArray, List.map_cons, List.map_nil]); first | done | rfl | (simp only [List.length_drop, List.length_take]; rfl)) ?_; (with_reducible refine (pap_Answered.calls kj85 a4_0 a4_1 a4_2 t256 t257 t258 _ A124.out).mono ?_); rintro e w199 ⟨rfl, hb⟩; refine ⟨_, rfl, ?_⟩; have n0_ := Aside0.mk (blk_below (g := gb229) (o := .cells #[.int .u8 a4_0, .int .u8 a4_1, .string a4_2] 25 (0, 0)) (by (with_reducible repeat (first | refine blk_drewN ?_ _ | refine blk_drew ?_ | refine blk_alloc ?_ _)); exact BK229.out) hb); have n1_ := Aside0.mk (blk_below (g := gb235) (o := .cells #[.int .u8 t231, .int .u8 t232, .string t233] 25 (0, 0)) (by (with_reducible repeat (first | refine blk_drewN ?_ _ | refine blk_drew ?_ | refine blk_alloc ?_ _)); exact BK235.out) hb); have n2_ := Aside0.mk (blk_below (g := gb244) (o := .cells #[.int .u8 t240, .int .u8 t241, .string t242] 25 (0, 0)) (by (with_reducible repeat (first | refine blk_drewN ?_ _ | refine blk_drew ?_ | refine blk_alloc ?_ _)); exact BK244.out) hb); have n3_ := Aside0.mk (below_step (by repeat (first | (with_reducible first | exact HB.out | apply below_alloc | apply pw_below_drewN | apply below_drew1 | refine below_set ?_ GE229.out | refine below_set ?_ GE235.out | refine below_set ?_ GE244.out) | exact HB.out)) hb); clear BK229; clear BK235; clear BK244; clear HB; have BK229 := n0_; have BK235 := n1_; have BK244 := n2_; have HB := n3_; clear n0_ n1_ n2_ n3_; (try clear hb); (try clear hb2); (try clear hk); (try clear hi); have hcz200_0 : w199.cell? ⟨gb229, 0, none⟩ = some (.int .u8 a4_0) := (blk_cell BK229.out 0).trans rfl; have hcz200_1 : w199.cell? ⟨gb229, 1, none⟩ = some (.int .u8 a4_1) := (blk_cell BK229.out 1).trans rfl; have hcz200_2 : w199.cell? ⟨gb229, 2, none⟩ = some (.string a4_2) := (blk_cell BK229.out 2).trans rfl; have hfz200_0 := blk_frozen BK229.out 0; have hfz200_1 := blk_frozen BK229.out 1; have hfz200_2 := blk_frozen BK229.out 2) | ((with_reducible refine gate_callee (f := 21) rfl ?_); refine goesL_ (some 151) rfl rfl Try.func21 (by kernel_rfl) rfl #[.int .u8 a4_1, .bool t256, .string t257] rfl (by (try simp only [List.map_toArray, List.map_cons, List.map_nil]); first | done | rfl | (simp only [List.length_drop, List.length_take]; rfl)) ?_; (with_reducible refine (pap_Answer.calls a4_1 t256 t257 t259 t260 t261 t262 _ A126.out).mono ?_); rintro e w201 ⟨rfl, hb⟩; refine ⟨_, rfl, ?_⟩; have n0_ := Aside0.mk (blk_below (g := gb229) (o := .cells #[.int .u8 a4_0, .int .u8 a4_1, .string a4_2] 25 (0, 0)) (by (with_reducible repeat (first | refine blk_drewN ?_ _ | refine blk_drew ?_ | refine blk_alloc ?_ _)); exact BK229.out) hb); have n1_ := Aside0.mk (blk_below (g := gb235) (o := .cells #[.int .u8 t231, .int .u8 t232, .string t233] 25 (0, 0)) (by (with_reducible repeat (first | refine blk_drewN ?_ _ | refine blk_drew ?_ | refine blk_alloc ?_ _)); exact BK235.out) hb); have n2_ := Aside0.mk (blk_below (g := gb244) (o := .cells #[.int .u8 t240, .int .u8 t241, .string t242] 25 (0, 0)) (by (with_reducible repeat (first | refine blk_drewN ?_ _ | refine blk_drew ?_ | refine blk_alloc ?_ _)); exact BK244.out) hb); have n3_ := Aside0.mk (below_step (by repeat (first | (with_reducible first | exact HB.out | apply below_alloc | apply pw_below_drewN | apply below_drew1 | refine below_set ?_ GE229.out | refine below_set ?_ GE235.out | refine below_set ?_ GE244.out) | exact HB.out)) hb); clear BK229; clear BK235; clear BK244; clear HB; have BK229 := n0_; have BK235 := n1_; have BK244 := n2_; have HB := n3_; clear n0_ n1_ n2_ n3_; (try clear hb); (try clear hb2); (try clear hk); (try clear hi)) | ((with_reducible refine gate_dst (N := 29) rfl ?_); refine box_event ?hg (N := 29) ?hd (cs := #[.int .u8 0, .int .u8 0, .string (⟨#[]⟩ : ByteArray)]) (t := 25) ?hr ?_; (case hd => rfl); (case hg => rfl); (case hr => first | (go_simp; done) | (go_simp; rfl)); intro gb263 hg w202 hbox hb; have n0_ := Aside0.mk (blk_below (g := gb229) (o := .cells #[.int .u8 a4_0, .int .u8 a4_1, .string a4_2] 25 (0, 0)) (by (with_reducible repeat (first | refine blk_drewN ?_ _ | refine blk_drew ?_ | refine blk_alloc ?_ _)); exact BK229.out) hb); have n1_ := Aside0.mk (blk_below (g := gb235) (o := .cells #[.int .u8 t231, .int .u8 t232, .string t233] 25 (0, 0)) (by (with_reducible repeat (first | refine blk_drewN ?_ _ | refine blk_drew ?_ | refine blk_alloc ?_ _)); exact BK235.out) hb); have n2_ := Aside0.mk (blk_below (g := gb244) (o := .cells #[.int .u8 t240, .int .u8 t241, .string t242] 25 (0, 0)) (by (with_reducible repeat (first | refine blk_drewN ?_ _ | refine blk_drew ?_ | refine blk_alloc ?_ _)); exact BK244.out) hb); have n3_ := Aside0.mk (below_step (by repeat (first | (with_reducible first | exact HB.out | apply below_alloc | apply pw_below_drewN | apply below_drew1 | refine below_set ?_ GE229.out | refine below_set ?_ GE235.out | refine below_set ?_ GE244.out) | exact HB.out)) hb); have n4_ := Aside0.mk (hbox); have n5_ := Aside0.mk ((by rw [hg]; exact (below_size (by repeat (first | (with_reducible first | exact HB.out | apply below_alloc | apply pw_below_drewN | apply below_drew1 | refine below_set ?_ GE229.out | refine below_set ?_ GE235.out | refine below_set ?_ GE244.out) | exact HB.out))) : w.heap.size ≤ gb263)); have n6_ := Aside0.mk ((by rw [hg]; exact (below_size (by repeat (first | (with_reducible first | exact HB.out | apply below_alloc | apply pw_below_drewN | apply below_drew1 | refine below_set ?_ GE229.out | refine below_set ?_ GE235.out | refine below_set ?_ GE244.out) | exact HB.out))) : w.heap.size ≤ gb263)); have n7_ := Aside0.mk ((by rw [hg]; exact Nat.ne_of_lt (blk_lt (g := gb229) (o := .cells #[.int .u8 a4_0, .int .u8 a4_1, .string a4_2] 25 (0, 0)) (by (with_reducible repeat (first | refine blk_drewN ?_ _ | refine blk_drew ?_ | refine blk_alloc ?_ _)); exact BK229.out)) : gb229 ≠ gb263)); have n8_ := Aside0.mk ((by rw [hg]; exact Nat.ne_of_gt (blk_lt (g := gb229) (o := .cells #[.int .u8 a4_0, .int .u8 a4_1, .string a4_2] 25 (0, 0)) (by (with_reducible repeat (first | refine blk_drewN ?_ _ | refine blk_drew ?_ | refine blk_alloc ?_ _)); exact BK229.out)) : gb263 ≠ gb229)); have n9_ := Aside0.mk ((by rw [hg]; exact Nat.ne_of_lt (blk_lt (g := gb235) (o := .cells #[.int .u8 t231, .int .u8 t232, .string t233] 25 (0, 0)) (by (with_reducible repeat (first | refine blk_drewN ?_ _ | refine blk_drew ?_ | refine blk_alloc ?_ _)); exact BK235.out)) : gb235 ≠ gb263)); have n10_ := Aside0.mk ((by rw [hg]; exact Nat.ne_of_gt (blk_lt (g := gb235) (o := .cells #[.int .u8 t231, .int .u8 t232, .string t233] 25 (0, 0)) (by (with_reducible repeat (first | refine blk_drewN ?_ _ | refine blk_drew ?_ | refine blk_alloc ?_ _)); exact BK235.out)) : gb263 ≠ gb235)); have n11_ := Aside0.mk ((by rw [hg]; exact Nat.ne_of_lt (blk_lt (g := gb244) (o := .cells #[.int .u8 t240, .int .u8 t241, .string t242] 25 (0, 0)) (by (with_reducible repeat (first | refine blk_drewN ?_ _ | refine blk_drew ?_ | refine blk_alloc ?_ _)); exact BK244.out)) : gb244 ≠ gb263)); have n12_ := Aside0.mk ((by rw [hg]; exact Nat.ne_of_gt (blk_lt (g := gb244) (o := .cells #[.int .u8 t240, .int .u8 t241, .string t242] 25 (0, 0)) (by (with_reducible repeat (first | refine blk_drewN ?_ _ | refine blk_drew ?_ | refine blk_alloc ?_ _)); exact BK244.out)) : gb263 ≠ gb244)); clear BK229; clear BK235; clear BK244; clear HB; have BK229 := n0_; have BK235 := n1_; have BK244 := n2_; have HB := n3_; have BK263 := n4_; have GW263 := n5_; have GE263 := n6_; have NB229_263 := n7_; have NB263_229 := n8_; have NB235_263 := n9_; have NB263_235 := n10_; have NB244_263 := n11_; have NB263_244 := n12_; clear n0_ n1_ n2_ n3_ n4_ n5_ n6_ n7_ n8_ n9_ n10_ n11_ n12_; clear hb hbox hg; have hnb203 := NB263_229.out; have hnc203 := NB229_263.out; have hnb204 := NB263_235.out; have hnc204 := NB235_263.out; have hnb205 := NB263_244.out; have hnc205 := NB244_263.out; have hcz206_0 : w202.cell? ⟨gb263, 0, none⟩ = some (.int .u8 0) := (blk_cell BK263.out 0).trans rfl; have hcz206_1 : w202.cell? ⟨gb263, 1, none⟩ = some (.int .u8 0) := (blk_cell BK263.out 1).trans rfl; have hcz206_2 : w202.cell? ⟨gb263, 2, none⟩ = some (.string (⟨#[]⟩ : ByteArray)) := (blk_cell BK263.out 2).trans rfl; have hfz206_0 := blk_frozen BK263.out 0; have hfz206_1 := blk_frozen BK263.out 1; have hfz206_2 := blk_frozen BK263.out 2))
                    go_ret
                    exact ⟨by first | rfl | (simp [errW_none, errW_some] <;> rfl) | (simp [*, errW_none, errW_some] <;> rfl), by repeat (first | (with_reducible first | exact HB.out | apply below_alloc | apply pw_below_drewN | apply below_drew1 | refine below_set ?_ GE229.out | refine below_set ?_ GE235.out | refine below_set ?_ GE244.out | refine below_set ?_ GE263.out) | exact HB.out)⟩
                · rw [if_neg c125] at H
                  have c125b0 : (t258 == 0) = false := beq_eq_false_iff_ne.mpr c125
                  have c125b1 : (t258 != 0) = true := bne_iff_ne.mpr c125
                  by_cases c207 : t250 = 0
                  · rw [if_pos c207] at H
                    have c207b0 : (t250 == 0) = true := beq_iff_eq.mpr c207
                    have c207b1 : (t250 != 0) = false := bne_eq_false_iff_eq.mpr c207
                    clear c207
                    by_cases c208 : t256 = true
                    · subst c208
                      have H1 : (some false) = some r := by rw [if_pos rfl] at H; exact H
                      clear H
                      have H := H1
                      clear H1
                      obtain rfl := Option.some.inj H
                      have hnb209 := NB229_235.out
                      have hnc209 := NB235_229.out
                      have hnb210 := NB229_244.out
                      have hnc210 := NB244_229.out
                      have hcz211_0 : wc.cell? ⟨gb229, 0, none⟩ = some (.int .u8 a4_0) := (blk_cell BK229.out 0).trans rfl
                      have hcz211_1 : wc.cell? ⟨gb229, 1, none⟩ = some (.int .u8 a4_1) := (blk_cell BK229.out 1).trans rfl
                      have hcz211_2 : wc.cell? ⟨gb229, 2, none⟩ = some (.string a4_2) := (blk_cell BK229.out 2).trans rfl
                      have hfz211_0 := blk_frozen BK229.out 0
                      have hfz211_1 := blk_frozen BK229.out 1
                      have hfz211_2 := blk_frozen BK229.out 2
                      go_wp2_with (first | ((with_reducible refine gate_callee (f := 24) rfl ?_); refine goesL_ (some 140) rfl rfl Try.func24 (by kernel_rfl) rfl #[.agg #[.int .u8 a4_0, .int .u8 a4_1, .string a4_2]] rfl (by (try simp only [List.map_toArray, List.map_cons, List.map_nil]); first | done | rfl | (simp only [List.length_drop, List.length_take]; rfl)) ?_; (with_reducible refine (pap_Answered.calls kj85 a4_0 a4_1 a4_2 true t257 t258 _ A124.out).mono ?_); rintro e w212 ⟨rfl, hb⟩; refine ⟨_, rfl, ?_⟩; have n0_ := Aside0.mk (blk_below (g := gb229) (o := .cells #[.int .u8 a4_0, .int .u8 a4_1, .string a4_2] 25 (0, 0)) (by (with_reducible repeat (first | refine blk_drewN ?_ _ | refine blk_drew ?_ | refine blk_alloc ?_ _)); exact BK229.out) hb); have n1_ := Aside0.mk (blk_below (g := gb235) (o := .cells #[.int .u8 t231, .int .u8 t232, .string t233] 25 (0, 0)) (by (with_reducible repeat (first | refine blk_drewN ?_ _ | refine blk_drew ?_ | refine blk_alloc ?_ _)); exact BK235.out) hb); have n2_ := Aside0.mk (blk_below (g := gb244) (o := .cells #[.int .u8 t240, .int .u8 t241, .string t242] 25 (0, 0)) (by (with_reducible repeat (first | refine blk_drewN ?_ _ | refine blk_drew ?_ | refine blk_alloc ?_ _)); exact BK244.out) hb); have n3_ := Aside0.mk (below_step (by repeat (first | (with_reducible first | exact HB.out | apply below_alloc | apply pw_below_drewN | apply below_drew1 | refine below_set ?_ GE229.out | refine below_set ?_ GE235.out | refine below_set ?_ GE244.out) | exact HB.out)) hb); clear BK229; clear BK235; clear BK244; clear HB; have BK229 := n0_; have BK235 := n1_; have BK244 := n2_; have HB := n3_; clear n0_ n1_ n2_ n3_; (try clear hb); (try clear hb2); (try clear hk); (try clear hi)))
                      go_ret
                      exact ⟨by first | rfl | (simp [errW_none, errW_some] <;> rfl) | (simp [*, errW_none, errW_some] <;> rfl), by repeat (first | (with_reducible first | exact HB.out | apply below_alloc | apply pw_below_drewN | apply below_drew1 | refine below_set ?_ GE229.out | refine below_set ?_ GE235.out | refine below_set ?_ GE244.out) | exact HB.out)⟩
                    · replace c208 := Bool.eq_false_iff.mpr c208
                      subst c208
                      have H1 : (if t257.toList = ([] : List UInt8) then ((halyardlaw18_alive.f).bind fun t266 => (some t266)) else (some false)) = some r := by rw [if_neg (show ¬ (false = true) by decide)] at H; exact H
                      clear H
                      have H := H1
                      clear H1
                      by_cases c213 : t257.toList = ([] : List UInt8)
                      · rw [if_pos c213] at H
                        have c213b0 : (t257.toList == ([] : List UInt8)) = true := beq_iff_eq.mpr c213
                        have c213b1 : (t257.toList != ([] : List UInt8)) = false := bne_eq_false_iff_eq.mpr c213
                        clear c213
                        replace H := Option.bind_eq_some_iff.mp H
                        obtain ⟨t266, A2140, H⟩ := H
                        replace H : (some t266) = some r := H
                        have A214 := Aside0.mk A2140
                        clear A2140
                        obtain rfl := Option.some.inj H
                        have hnb215 := NB229_235.out
                        have hnc215 := NB235_229.out
                        have hnb216 := NB229_244.out
                        have hnc216 := NB244_229.out
                        have hcz217_0 : wc.cell? ⟨gb229, 0, none⟩ = some (.int .u8 a4_0) := (blk_cell BK229.out 0).trans rfl
                        have hcz217_1 : wc.cell? ⟨gb229, 1, none⟩ = some (.int .u8 a4_1) := (blk_cell BK229.out 1).trans rfl
                        have hcz217_2 : wc.cell? ⟨gb229, 2, none⟩ = some (.string a4_2) := (blk_cell BK229.out 2).trans rfl
                        have hfz217_0 := blk_frozen BK229.out 0
                        have hfz217_1 := blk_frozen BK229.out 1
                        have hfz217_2 := blk_frozen BK229.out 2
                        go_wp2_with (first | ((with_reducible refine gate_callee (f := 24) rfl ?_); refine goesL_ (some 140) rfl rfl Try.func24 (by kernel_rfl) rfl #[.agg #[.int .u8 a4_0, .int .u8 a4_1, .string a4_2]] rfl (by (try simp only [List.map_toArray, List.map_cons, List.map_nil]); first | done | rfl | (simp only [List.length_drop, List.length_take]; rfl)) ?_; (with_reducible refine (pap_Answered.calls kj85 a4_0 a4_1 a4_2 false t257 t258 _ A124.out).mono ?_); rintro e w218 ⟨rfl, hb⟩; refine ⟨_, rfl, ?_⟩; have n0_ := Aside0.mk (blk_below (g := gb229) (o := .cells #[.int .u8 a4_0, .int .u8 a4_1, .string a4_2] 25 (0, 0)) (by (with_reducible repeat (first | refine blk_drewN ?_ _ | refine blk_drew ?_ | refine blk_alloc ?_ _)); exact BK229.out) hb); have n1_ := Aside0.mk (blk_below (g := gb235) (o := .cells #[.int .u8 t231, .int .u8 t232, .string t233] 25 (0, 0)) (by (with_reducible repeat (first | refine blk_drewN ?_ _ | refine blk_drew ?_ | refine blk_alloc ?_ _)); exact BK235.out) hb); have n2_ := Aside0.mk (blk_below (g := gb244) (o := .cells #[.int .u8 t240, .int .u8 t241, .string t242] 25 (0, 0)) (by (with_reducible repeat (first | refine blk_drewN ?_ _ | refine blk_drew ?_ | refine blk_alloc ?_ _)); exact BK244.out) hb); have n3_ := Aside0.mk (below_step (by repeat (first | (with_reducible first | exact HB.out | apply below_alloc | apply pw_below_drewN | apply below_drew1 | refine below_set ?_ GE229.out | refine below_set ?_ GE235.out | refine below_set ?_ GE244.out) | exact HB.out)) hb); clear BK229; clear BK235; clear BK244; clear HB; have BK229 := n0_; have BK235 := n1_; have BK244 := n2_; have HB := n3_; clear n0_ n1_ n2_ n3_; (try clear hb); (try clear hb2); (try clear hk); (try clear hi)) | (go_at_call 16; (with_reducible refine (halyardlaw18_alive.calls  t266 _ A214.out).mono ?_); rintro e w219 ⟨rfl, hb⟩; have n0_ := Aside0.mk (blk_below (g := gb229) (o := .cells #[.int .u8 a4_0, .int .u8 a4_1, .string a4_2] 25 (0, 0)) (by (with_reducible repeat (first | refine blk_drewN ?_ _ | refine blk_drew ?_ | refine blk_alloc ?_ _)); exact BK229.out) hb); have n1_ := Aside0.mk (blk_below (g := gb235) (o := .cells #[.int .u8 t231, .int .u8 t232, .string t233] 25 (0, 0)) (by (with_reducible repeat (first | refine blk_drewN ?_ _ | refine blk_drew ?_ | refine blk_alloc ?_ _)); exact BK235.out) hb); have n2_ := Aside0.mk (blk_below (g := gb244) (o := .cells #[.int .u8 t240, .int .u8 t241, .string t242] 25 (0, 0)) (by (with_reducible repeat (first | refine blk_drewN ?_ _ | refine blk_drew ?_ | refine blk_alloc ?_ _)); exact BK244.out) hb); have n3_ := Aside0.mk (below_step (by repeat (first | (with_reducible first | exact HB.out | apply below_alloc | apply pw_below_drewN | apply below_drew1 | refine below_set ?_ GE229.out | refine below_set ?_ GE235.out | refine below_set ?_ GE244.out) | exact HB.out)) hb); clear BK229; clear BK235; clear BK244; clear HB; have BK229 := n0_; have BK235 := n1_; have BK244 := n2_; have HB := n3_; clear n0_ n1_ n2_ n3_; (try clear hb); (try clear hb2); (try clear hk); (try clear hi)))
                        go_ret
                        exact ⟨by first | rfl | (simp [errW_none, errW_some] <;> rfl) | (simp [*, errW_none, errW_some] <;> rfl), by repeat (first | (with_reducible first | exact HB.out | apply below_alloc | apply pw_below_drewN | apply below_drew1 | refine below_set ?_ GE229.out | refine below_set ?_ GE235.out | refine below_set ?_ GE244.out) | exact HB.out)⟩
                      · rw [if_neg c213] at H
                        have c213b0 : (t257.toList == ([] : List UInt8)) = false := beq_eq_false_iff_ne.mpr c213
                        have c213b1 : (t257.toList != ([] : List UInt8)) = true := bne_iff_ne.mpr c213
                        obtain rfl := Option.some.inj H
                        have hnb220 := NB229_235.out
                        have hnc220 := NB235_229.out
                        have hnb221 := NB229_244.out
                        have hnc221 := NB244_229.out
                        have hcz222_0 : wc.cell? ⟨gb229, 0, none⟩ = some (.int .u8 a4_0) := (blk_cell BK229.out 0).trans rfl
                        have hcz222_1 : wc.cell? ⟨gb229, 1, none⟩ = some (.int .u8 a4_1) := (blk_cell BK229.out 1).trans rfl
                        have hcz222_2 : wc.cell? ⟨gb229, 2, none⟩ = some (.string a4_2) := (blk_cell BK229.out 2).trans rfl
                        have hfz222_0 := blk_frozen BK229.out 0
                        have hfz222_1 := blk_frozen BK229.out 1
                        have hfz222_2 := blk_frozen BK229.out 2
                        go_wp2_with (first | ((with_reducible refine gate_callee (f := 24) rfl ?_); refine goesL_ (some 140) rfl rfl Try.func24 (by kernel_rfl) rfl #[.agg #[.int .u8 a4_0, .int .u8 a4_1, .string a4_2]] rfl (by (try simp only [List.map_toArray, List.map_cons, List.map_nil]); first | done | rfl | (simp only [List.length_drop, List.length_take]; rfl)) ?_; (with_reducible refine (pap_Answered.calls kj85 a4_0 a4_1 a4_2 false t257 t258 _ A124.out).mono ?_); rintro e w223 ⟨rfl, hb⟩; refine ⟨_, rfl, ?_⟩; have n0_ := Aside0.mk (blk_below (g := gb229) (o := .cells #[.int .u8 a4_0, .int .u8 a4_1, .string a4_2] 25 (0, 0)) (by (with_reducible repeat (first | refine blk_drewN ?_ _ | refine blk_drew ?_ | refine blk_alloc ?_ _)); exact BK229.out) hb); have n1_ := Aside0.mk (blk_below (g := gb235) (o := .cells #[.int .u8 t231, .int .u8 t232, .string t233] 25 (0, 0)) (by (with_reducible repeat (first | refine blk_drewN ?_ _ | refine blk_drew ?_ | refine blk_alloc ?_ _)); exact BK235.out) hb); have n2_ := Aside0.mk (blk_below (g := gb244) (o := .cells #[.int .u8 t240, .int .u8 t241, .string t242] 25 (0, 0)) (by (with_reducible repeat (first | refine blk_drewN ?_ _ | refine blk_drew ?_ | refine blk_alloc ?_ _)); exact BK244.out) hb); have n3_ := Aside0.mk (below_step (by repeat (first | (with_reducible first | exact HB.out | apply below_alloc | apply pw_below_drewN | apply below_drew1 | refine below_set ?_ GE229.out | refine below_set ?_ GE235.out | refine below_set ?_ GE244.out) | exact HB.out)) hb); clear BK229; clear BK235; clear BK244; clear HB; have BK229 := n0_; have BK235 := n1_; have BK244 := n2_; have HB := n3_; clear n0_ n1_ n2_ n3_; (try clear hb); (try clear hb2); (try clear hk); (try clear hi)))
                        go_ret
                        exact ⟨by first | rfl | (simp [errW_none, errW_some] <;> rfl) | (simp [*, errW_none, errW_some] <;> rfl), by repeat (first | (with_reducible first | exact HB.out | apply below_alloc | apply pw_below_drewN | apply below_drew1 | refine below_set ?_ GE229.out | refine below_set ?_ GE235.out | refine below_set ?_ GE244.out) | exact HB.out)⟩
                  · rw [if_neg c207] at H
                    have c207b0 : (t250 == 0) = false := beq_eq_false_iff_ne.mpr c207
                    have c207b1 : (t250 != 0) = true := bne_iff_ne.mpr c207
                    by_cases c224 : t248.toList = ([] : List UInt8)
                    · rw [if_pos c224] at H
                      have c224b0 : (t248.toList == ([] : List UInt8)) = true := beq_iff_eq.mpr c224
                      have c224b1 : (t248.toList != ([] : List UInt8)) = false := bne_eq_false_iff_eq.mpr c224
                      clear c224
                      by_cases c225 : t249.toList = ([] : List UInt8)
                      · rw [if_pos c225] at H
                        have c225b0 : (t249.toList == ([] : List UInt8)) = true := beq_iff_eq.mpr c225
                        have c225b1 : (t249.toList != ([] : List UInt8)) = false := bne_eq_false_iff_eq.mpr c225
                        clear c225
                        by_cases c226 : t256 = true
                        · subst c226
                          have H1 : (some false) = some r := by rw [if_pos rfl] at H; exact H
                          clear H
                          have H := H1
                          clear H1
                          obtain rfl := Option.some.inj H
                          have hnb227 := NB229_235.out
                          have hnc227 := NB235_229.out
                          have hnb228 := NB229_244.out
                          have hnc228 := NB244_229.out
                          have hcz229_0 : wc.cell? ⟨gb229, 0, none⟩ = some (.int .u8 a4_0) := (blk_cell BK229.out 0).trans rfl
                          have hcz229_1 : wc.cell? ⟨gb229, 1, none⟩ = some (.int .u8 a4_1) := (blk_cell BK229.out 1).trans rfl
                          have hcz229_2 : wc.cell? ⟨gb229, 2, none⟩ = some (.string a4_2) := (blk_cell BK229.out 2).trans rfl
                          have hfz229_0 := blk_frozen BK229.out 0
                          have hfz229_1 := blk_frozen BK229.out 1
                          have hfz229_2 := blk_frozen BK229.out 2
                          go_wp2_with (first | ((with_reducible refine gate_callee (f := 24) rfl ?_); refine goesL_ (some 140) rfl rfl Try.func24 (by kernel_rfl) rfl #[.agg #[.int .u8 a4_0, .int .u8 a4_1, .string a4_2]] rfl (by (try simp only [List.map_toArray, List.map_cons, List.map_nil]); first | done | rfl | (simp only [List.length_drop, List.length_take]; rfl)) ?_; (with_reducible refine (pap_Answered.calls kj85 a4_0 a4_1 a4_2 true t257 t258 _ A124.out).mono ?_); rintro e w230 ⟨rfl, hb⟩; refine ⟨_, rfl, ?_⟩; have n0_ := Aside0.mk (blk_below (g := gb229) (o := .cells #[.int .u8 a4_0, .int .u8 a4_1, .string a4_2] 25 (0, 0)) (by (with_reducible repeat (first | refine blk_drewN ?_ _ | refine blk_drew ?_ | refine blk_alloc ?_ _)); exact BK229.out) hb); have n1_ := Aside0.mk (blk_below (g := gb235) (o := .cells #[.int .u8 t231, .int .u8 t232, .string t233] 25 (0, 0)) (by (with_reducible repeat (first | refine blk_drewN ?_ _ | refine blk_drew ?_ | refine blk_alloc ?_ _)); exact BK235.out) hb); have n2_ := Aside0.mk (blk_below (g := gb244) (o := .cells #[.int .u8 t240, .int .u8 t241, .string t242] 25 (0, 0)) (by (with_reducible repeat (first | refine blk_drewN ?_ _ | refine blk_drew ?_ | refine blk_alloc ?_ _)); exact BK244.out) hb); have n3_ := Aside0.mk (below_step (by repeat (first | (with_reducible first | exact HB.out | apply below_alloc | apply pw_below_drewN | apply below_drew1 | refine below_set ?_ GE229.out | refine below_set ?_ GE235.out | refine below_set ?_ GE244.out) | exact HB.out)) hb); clear BK229; clear BK235; clear BK244; clear HB; have BK229 := n0_; have BK235 := n1_; have BK244 := n2_; have HB := n3_; clear n0_ n1_ n2_ n3_; (try clear hb); (try clear hb2); (try clear hk); (try clear hi)))
                          go_ret
                          exact ⟨by first | rfl | (simp [errW_none, errW_some] <;> rfl) | (simp [*, errW_none, errW_some] <;> rfl), by repeat (first | (with_reducible first | exact HB.out | apply below_alloc | apply pw_below_drewN | apply below_drew1 | refine below_set ?_ GE229.out | refine below_set ?_ GE235.out | refine below_set ?_ GE244.out) | exact HB.out)⟩
                        · replace c226 := Bool.eq_false_iff.mpr c226
                          subst c226
                          have H1 : (if t257.toList = ([] : List UInt8) then ((halyardlaw18_alive.f).bind fun t267 => (some t267)) else (some false)) = some r := by rw [if_neg (show ¬ (false = true) by decide)] at H; exact H
                          clear H
                          have H := H1
                          clear H1
                          by_cases c231 : t257.toList = ([] : List UInt8)
                          · rw [if_pos c231] at H
                            have c231b0 : (t257.toList == ([] : List UInt8)) = true := beq_iff_eq.mpr c231
                            have c231b1 : (t257.toList != ([] : List UInt8)) = false := bne_eq_false_iff_eq.mpr c231
                            clear c231
                            replace H := Option.bind_eq_some_iff.mp H
                            obtain ⟨t267, A2320, H⟩ := H
                            replace H : (some t267) = some r := H
                            have A232 := Aside0.mk A2320
                            clear A2320
                            obtain rfl := Option.some.inj H
                            have hnb233 := NB229_235.out
                            have hnc233 := NB235_229.out
                            have hnb234 := NB229_244.out
                            have hnc234 := NB244_229.out
                            have hcz235_0 : wc.cell? ⟨gb229, 0, none⟩ = some (.int .u8 a4_0) := (blk_cell BK229.out 0).trans rfl
                            have hcz235_1 : wc.cell? ⟨gb229, 1, none⟩ = some (.int .u8 a4_1) := (blk_cell BK229.out 1).trans rfl
                            have hcz235_2 : wc.cell? ⟨gb229, 2, none⟩ = some (.string a4_2) := (blk_cell BK229.out 2).trans rfl
                            have hfz235_0 := blk_frozen BK229.out 0
                            have hfz235_1 := blk_frozen BK229.out 1
                            have hfz235_2 := blk_frozen BK229.out 2
                            go_wp2_with (first | ((with_reducible refine gate_callee (f := 24) rfl ?_); refine goesL_ (some 140) rfl rfl Try.func24 (by kernel_rfl) rfl #[.agg #[.int .u8 a4_0, .int .u8 a4_1, .string a4_2]] rfl (by (try simp only [List.map_toArray, List.map_cons, List.map_nil]); first | done | rfl | (simp only [List.length_drop, List.length_take]; rfl)) ?_; (with_reducible refine (pap_Answered.calls kj85 a4_0 a4_1 a4_2 false t257 t258 _ A124.out).mono ?_); rintro e w236 ⟨rfl, hb⟩; refine ⟨_, rfl, ?_⟩; have n0_ := Aside0.mk (blk_below (g := gb229) (o := .cells #[.int .u8 a4_0, .int .u8 a4_1, .string a4_2] 25 (0, 0)) (by (with_reducible repeat (first | refine blk_drewN ?_ _ | refine blk_drew ?_ | refine blk_alloc ?_ _)); exact BK229.out) hb); have n1_ := Aside0.mk (blk_below (g := gb235) (o := .cells #[.int .u8 t231, .int .u8 t232, .string t233] 25 (0, 0)) (by (with_reducible repeat (first | refine blk_drewN ?_ _ | refine blk_drew ?_ | refine blk_alloc ?_ _)); exact BK235.out) hb); have n2_ := Aside0.mk (blk_below (g := gb244) (o := .cells #[.int .u8 t240, .int .u8 t241, .string t242] 25 (0, 0)) (by (with_reducible repeat (first | refine blk_drewN ?_ _ | refine blk_drew ?_ | refine blk_alloc ?_ _)); exact BK244.out) hb); have n3_ := Aside0.mk (below_step (by repeat (first | (with_reducible first | exact HB.out | apply below_alloc | apply pw_below_drewN | apply below_drew1 | refine below_set ?_ GE229.out | refine below_set ?_ GE235.out | refine below_set ?_ GE244.out) | exact HB.out)) hb); clear BK229; clear BK235; clear BK244; clear HB; have BK229 := n0_; have BK235 := n1_; have BK244 := n2_; have HB := n3_; clear n0_ n1_ n2_ n3_; (try clear hb); (try clear hb2); (try clear hk); (try clear hi)) | (go_at_call 16; (with_reducible refine (halyardlaw18_alive.calls  t267 _ A232.out).mono ?_); rintro e w237 ⟨rfl, hb⟩; have n0_ := Aside0.mk (blk_below (g := gb229) (o := .cells #[.int .u8 a4_0, .int .u8 a4_1, .string a4_2] 25 (0, 0)) (by (with_reducible repeat (first | refine blk_drewN ?_ _ | refine blk_drew ?_ | refine blk_alloc ?_ _)); exact BK229.out) hb); have n1_ := Aside0.mk (blk_below (g := gb235) (o := .cells #[.int .u8 t231, .int .u8 t232, .string t233] 25 (0, 0)) (by (with_reducible repeat (first | refine blk_drewN ?_ _ | refine blk_drew ?_ | refine blk_alloc ?_ _)); exact BK235.out) hb); have n2_ := Aside0.mk (blk_below (g := gb244) (o := .cells #[.int .u8 t240, .int .u8 t241, .string t242] 25 (0, 0)) (by (with_reducible repeat (first | refine blk_drewN ?_ _ | refine blk_drew ?_ | refine blk_alloc ?_ _)); exact BK244.out) hb); have n3_ := Aside0.mk (below_step (by repeat (first | (with_reducible first | exact HB.out | apply below_alloc | apply pw_below_drewN | apply below_drew1 | refine below_set ?_ GE229.out | refine below_set ?_ GE235.out | refine below_set ?_ GE244.out) | exact HB.out)) hb); clear BK229; clear BK235; clear BK244; clear HB; have BK229 := n0_; have BK235 := n1_; have BK244 := n2_; have HB := n3_; clear n0_ n1_ n2_ n3_; (try clear hb); (try clear hb2); (try clear hk); (try clear hi)))
                            go_ret
                            exact ⟨by first | rfl | (simp [errW_none, errW_some] <;> rfl) | (simp [*, errW_none, errW_some] <;> rfl), by repeat (first | (with_reducible first | exact HB.out | apply below_alloc | apply pw_below_drewN | apply below_drew1 | refine below_set ?_ GE229.out | refine below_set ?_ GE235.out | refine below_set ?_ GE244.out) | exact HB.out)⟩
                          · rw [if_neg c231] at H
                            have c231b0 : (t257.toList == ([] : List UInt8)) = false := beq_eq_false_iff_ne.mpr c231
                            have c231b1 : (t257.toList != ([] : List UInt8)) = true := bne_iff_ne.mpr c231
                            obtain rfl := Option.some.inj H
                            have hnb238 := NB229_235.out
                            have hnc238 := NB235_229.out
                            have hnb239 := NB229_244.out
                            have hnc239 := NB244_229.out
                            have hcz240_0 : wc.cell? ⟨gb229, 0, none⟩ = some (.int .u8 a4_0) := (blk_cell BK229.out 0).trans rfl
                            have hcz240_1 : wc.cell? ⟨gb229, 1, none⟩ = some (.int .u8 a4_1) := (blk_cell BK229.out 1).trans rfl
                            have hcz240_2 : wc.cell? ⟨gb229, 2, none⟩ = some (.string a4_2) := (blk_cell BK229.out 2).trans rfl
                            have hfz240_0 := blk_frozen BK229.out 0
                            have hfz240_1 := blk_frozen BK229.out 1
                            have hfz240_2 := blk_frozen BK229.out 2
                            go_wp2_with (first | ((with_reducible refine gate_callee (f := 24) rfl ?_); refine goesL_ (some 140) rfl rfl Try.func24 (by kernel_rfl) rfl #[.agg #[.int .u8 a4_0, .int .u8 a4_1, .string a4_2]] rfl (by (try simp only [List.map_toArray, List.map_cons, List.map_nil]); first | done | rfl | (simp only [List.length_drop, List.length_take]; rfl)) ?_; (with_reducible refine (pap_Answered.calls kj85 a4_0 a4_1 a4_2 false t257 t258 _ A124.out).mono ?_); rintro e w241 ⟨rfl, hb⟩; refine ⟨_, rfl, ?_⟩; have n0_ := Aside0.mk (blk_below (g := gb229) (o := .cells #[.int .u8 a4_0, .int .u8 a4_1, .string a4_2] 25 (0, 0)) (by (with_reducible repeat (first | refine blk_drewN ?_ _ | refine blk_drew ?_ | refine blk_alloc ?_ _)); exact BK229.out) hb); have n1_ := Aside0.mk (blk_below (g := gb235) (o := .cells #[.int .u8 t231, .int .u8 t232, .string t233] 25 (0, 0)) (by (with_reducible repeat (first | refine blk_drewN ?_ _ | refine blk_drew ?_ | refine blk_alloc ?_ _)); exact BK235.out) hb); have n2_ := Aside0.mk (blk_below (g := gb244) (o := .cells #[.int .u8 t240, .int .u8 t241, .string t242] 25 (0, 0)) (by (with_reducible repeat (first | refine blk_drewN ?_ _ | refine blk_drew ?_ | refine blk_alloc ?_ _)); exact BK244.out) hb); have n3_ := Aside0.mk (below_step (by repeat (first | (with_reducible first | exact HB.out | apply below_alloc | apply pw_below_drewN | apply below_drew1 | refine below_set ?_ GE229.out | refine below_set ?_ GE235.out | refine below_set ?_ GE244.out) | exact HB.out)) hb); clear BK229; clear BK235; clear BK244; clear HB; have BK229 := n0_; have BK235 := n1_; have BK244 := n2_; have HB := n3_; clear n0_ n1_ n2_ n3_; (try clear hb); (try clear hb2); (try clear hk); (try clear hi)))
                            go_ret
                            exact ⟨by first | rfl | (simp [errW_none, errW_some] <;> rfl) | (simp [*, errW_none, errW_some] <;> rfl), by repeat (first | (with_reducible first | exact HB.out | apply below_alloc | apply pw_below_drewN | apply below_drew1 | refine below_set ?_ GE229.out | refine below_set ?_ GE235.out | refine below_set ?_ GE244.out) | exact HB.out)⟩
                      · rw [if_neg c225] at H
                        have c225b0 : (t249.toList == ([] : List UInt8)) = false := beq_eq_false_iff_ne.mpr c225
                        have c225b1 : (t249.toList != ([] : List UInt8)) = true := bne_iff_ne.mpr c225
                        obtain rfl := Option.some.inj H
                        have hnb242 := NB229_235.out
                        have hnc242 := NB235_229.out
                        have hnb243 := NB229_244.out
                        have hnc243 := NB244_229.out
                        have hcz244_0 : wc.cell? ⟨gb229, 0, none⟩ = some (.int .u8 a4_0) := (blk_cell BK229.out 0).trans rfl
                        have hcz244_1 : wc.cell? ⟨gb229, 1, none⟩ = some (.int .u8 a4_1) := (blk_cell BK229.out 1).trans rfl
                        have hcz244_2 : wc.cell? ⟨gb229, 2, none⟩ = some (.string a4_2) := (blk_cell BK229.out 2).trans rfl
                        have hfz244_0 := blk_frozen BK229.out 0
                        have hfz244_1 := blk_frozen BK229.out 1
                        have hfz244_2 := blk_frozen BK229.out 2
                        go_wp2_with (first | ((with_reducible refine gate_callee (f := 24) rfl ?_); refine goesL_ (some 140) rfl rfl Try.func24 (by kernel_rfl) rfl #[.agg #[.int .u8 a4_0, .int .u8 a4_1, .string a4_2]] rfl (by (try simp only [List.map_toArray, List.map_cons, List.map_nil]); first | done | rfl | (simp only [List.length_drop, List.length_take]; rfl)) ?_; (with_reducible refine (pap_Answered.calls kj85 a4_0 a4_1 a4_2 t256 t257 t258 _ A124.out).mono ?_); rintro e w245 ⟨rfl, hb⟩; refine ⟨_, rfl, ?_⟩; have n0_ := Aside0.mk (blk_below (g := gb229) (o := .cells #[.int .u8 a4_0, .int .u8 a4_1, .string a4_2] 25 (0, 0)) (by (with_reducible repeat (first | refine blk_drewN ?_ _ | refine blk_drew ?_ | refine blk_alloc ?_ _)); exact BK229.out) hb); have n1_ := Aside0.mk (blk_below (g := gb235) (o := .cells #[.int .u8 t231, .int .u8 t232, .string t233] 25 (0, 0)) (by (with_reducible repeat (first | refine blk_drewN ?_ _ | refine blk_drew ?_ | refine blk_alloc ?_ _)); exact BK235.out) hb); have n2_ := Aside0.mk (blk_below (g := gb244) (o := .cells #[.int .u8 t240, .int .u8 t241, .string t242] 25 (0, 0)) (by (with_reducible repeat (first | refine blk_drewN ?_ _ | refine blk_drew ?_ | refine blk_alloc ?_ _)); exact BK244.out) hb); have n3_ := Aside0.mk (below_step (by repeat (first | (with_reducible first | exact HB.out | apply below_alloc | apply pw_below_drewN | apply below_drew1 | refine below_set ?_ GE229.out | refine below_set ?_ GE235.out | refine below_set ?_ GE244.out) | exact HB.out)) hb); clear BK229; clear BK235; clear BK244; clear HB; have BK229 := n0_; have BK235 := n1_; have BK244 := n2_; have HB := n3_; clear n0_ n1_ n2_ n3_; (try clear hb); (try clear hb2); (try clear hk); (try clear hi)))
                        go_ret
                        exact ⟨by first | rfl | (simp [errW_none, errW_some] <;> rfl) | (simp [*, errW_none, errW_some] <;> rfl), by repeat (first | (with_reducible first | exact HB.out | apply below_alloc | apply pw_below_drewN | apply below_drew1 | refine below_set ?_ GE229.out | refine below_set ?_ GE235.out | refine below_set ?_ GE244.out) | exact HB.out)⟩
                    · rw [if_neg c224] at H
                      have c224b0 : (t248.toList == ([] : List UInt8)) = false := beq_eq_false_iff_ne.mpr c224
                      have c224b1 : (t248.toList != ([] : List UInt8)) = true := bne_iff_ne.mpr c224
                      obtain rfl := Option.some.inj H
                      have hnb246 := NB229_235.out
                      have hnc246 := NB235_229.out
                      have hnb247 := NB229_244.out
                      have hnc247 := NB244_229.out
                      have hcz248_0 : wc.cell? ⟨gb229, 0, none⟩ = some (.int .u8 a4_0) := (blk_cell BK229.out 0).trans rfl
                      have hcz248_1 : wc.cell? ⟨gb229, 1, none⟩ = some (.int .u8 a4_1) := (blk_cell BK229.out 1).trans rfl
                      have hcz248_2 : wc.cell? ⟨gb229, 2, none⟩ = some (.string a4_2) := (blk_cell BK229.out 2).trans rfl
                      have hfz248_0 := blk_frozen BK229.out 0
                      have hfz248_1 := blk_frozen BK229.out 1
                      have hfz248_2 := blk_frozen BK229.out 2
                      go_wp2_with (first | ((with_reducible refine gate_callee (f := 24) rfl ?_); refine goesL_ (some 140) rfl rfl Try.func24 (by kernel_rfl) rfl #[.agg #[.int .u8 a4_0, .int .u8 a4_1, .string a4_2]] rfl (by (try simp only [List.map_toArray, List.map_cons, List.map_nil]); first | done | rfl | (simp only [List.length_drop, List.length_take]; rfl)) ?_; (with_reducible refine (pap_Answered.calls kj85 a4_0 a4_1 a4_2 t256 t257 t258 _ A124.out).mono ?_); rintro e w249 ⟨rfl, hb⟩; refine ⟨_, rfl, ?_⟩; have n0_ := Aside0.mk (blk_below (g := gb229) (o := .cells #[.int .u8 a4_0, .int .u8 a4_1, .string a4_2] 25 (0, 0)) (by (with_reducible repeat (first | refine blk_drewN ?_ _ | refine blk_drew ?_ | refine blk_alloc ?_ _)); exact BK229.out) hb); have n1_ := Aside0.mk (blk_below (g := gb235) (o := .cells #[.int .u8 t231, .int .u8 t232, .string t233] 25 (0, 0)) (by (with_reducible repeat (first | refine blk_drewN ?_ _ | refine blk_drew ?_ | refine blk_alloc ?_ _)); exact BK235.out) hb); have n2_ := Aside0.mk (blk_below (g := gb244) (o := .cells #[.int .u8 t240, .int .u8 t241, .string t242] 25 (0, 0)) (by (with_reducible repeat (first | refine blk_drewN ?_ _ | refine blk_drew ?_ | refine blk_alloc ?_ _)); exact BK244.out) hb); have n3_ := Aside0.mk (below_step (by repeat (first | (with_reducible first | exact HB.out | apply below_alloc | apply pw_below_drewN | apply below_drew1 | refine below_set ?_ GE229.out | refine below_set ?_ GE235.out | refine below_set ?_ GE244.out) | exact HB.out)) hb); clear BK229; clear BK235; clear BK244; clear HB; have BK229 := n0_; have BK235 := n1_; have BK244 := n2_; have HB := n3_; clear n0_ n1_ n2_ n3_; (try clear hb); (try clear hb2); (try clear hk); (try clear hi)))
                      go_ret
                      exact ⟨by first | rfl | (simp [errW_none, errW_some] <;> rfl) | (simp [*, errW_none, errW_some] <;> rfl), by repeat (first | (with_reducible first | exact HB.out | apply below_alloc | apply pw_below_drewN | apply below_drew1 | refine below_set ?_ GE229.out | refine below_set ?_ GE235.out | refine below_set ?_ GE244.out) | exact HB.out)⟩

end Go.Proofs.Ytdlpoemjgeehgaa.PG18
