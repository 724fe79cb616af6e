-- WRITTEN by wip/tools/hprint.py: the kit's print.py run over this translation, with functions proved by hand laid in. Lean checks it.
import Derived.Test.YtdojpjiiihmdoaaPG01Lx0
import Derived.Test.YtdojpjiiihmdoaaPG01Lx2
import Derived.Test.YtdojpjiiihmdoaaPG01Lx6
import Derived.Test.YtdojpjiiihmdoaaPG01Lx9
import Derived.Test.YtdojpjiiihmdoaaPG01Lx10
namespace Go.Proofs.Ytdojpjiiihmdoaa.PG01L
open Go.RowKit Go.Proofs.YtdojpjiiihmdoaaW.PrintWords Go.Proofs.YtdojpjiiihmdoaaW.PrintLast Go.Proofs.YtdojpjiiihmdoaaW.PrintMore Go.Proofs.YtdojpjiiihmdoaaHW
attribute [local go_sem] max2_int min2_int max_two min_two max_three min_three max_four min_four   -- for this text's walks alone
set_option linter.unusedVariables false
set_option linter.unusedSimpArgs false

/-! ### halyardlaw01_OctetNumbers: function 8 -/
def halyardlaw01_OctetNumbers.j0 : Nat → Int → Int → ByteArray → Int → Int → Int → Int → Bool → Option (Bool)
  | 0, _, _, _, _, _, _, _, _ => none
  | k + 1, x0, x1, x2, x7, x8, x11, x12, x78 => if x78 = true then (some false) else ((octet_Put16.f x0).bind fun t164 => ((octet_Get16.f t164).bind fun bt165 => ((octet_Put32.f x1).bind fun t167 => ((octet_Get32.f t167).bind fun bt168 => (if bt165.1 = x0 then (if bt165.2 = 0 then (if bt168.1 = x1 then (if bt168.2 = 0 then (if x8 = 0 then ((octet_Put16.f x7).bind fun t170 => (if t170.toList = x2.toList then (if x12 = 0 then ((octet_Put32.f x11).bind fun t171 => (if t171.toList = x2.toList then ((halyardlaw01_alive.f k).bind fun t172 => (some t172)) else (some false))) else ((halyardlaw01_alive.f k).bind fun t173 => (some t173))) else (some false))) else (if x12 = 0 then ((octet_Put32.f x11).bind fun t174 => (if t174.toList = x2.toList then ((halyardlaw01_alive.f k).bind fun t175 => (some t175)) else (some false))) else ((halyardlaw01_alive.f k).bind fun t176 => (some t176)))) else (some false)) else (some false)) else (some false)) else (some false))))))
def halyardlaw01_OctetNumbers.f (k : Nat) (a0 : Int) (a1 : Int) (a2 : ByteArray) : Option (Bool) := if (a2.size : Int) > 1024 then ((halyardlaw01_alive.f k).bind fun t151 => (some t151)) else ((octet_Get16.f a2).bind fun bt152 => ((halyardref01_Get.f k a2 2).bind fun bt154 => ((octet_Get32.f a2).bind fun bt156 => ((halyardref01_Get.f k a2 4).bind fun bt158 => (if (IntKind.u64.wrap (bt152.1)) = bt154.1 then (if bt152.2 = bt154.2 then (if (IntKind.u64.wrap (bt156.1)) = bt158.1 then (if bt156.2 = bt158.2 then ((octet_Put16.f a0).bind fun t160 => ((halyardref01_Num.f k (IntKind.u64.wrap (a0)) 2).bind fun t161 => (if t160.toList = t161.toList then ((octet_Put32.f a1).bind fun t162 => ((halyardref01_Num.f k (IntKind.u64.wrap (a1)) 4).bind fun t163 => (halyardlaw01_OctetNumbers.j0 k a0 a1 a2 bt152.1 bt152.2 bt156.1 bt156.2 (t162.toList != t163.toList)))) else (halyardlaw01_OctetNumbers.j0 k a0 a1 a2 bt152.1 bt152.2 bt156.1 bt156.2 true)))) else (halyardlaw01_OctetNumbers.j0 k a0 a1 a2 bt152.1 bt152.2 bt156.1 bt156.2 true)) else (halyardlaw01_OctetNumbers.j0 k a0 a1 a2 bt152.1 bt152.2 bt156.1 bt156.2 true)) else (halyardlaw01_OctetNumbers.j0 k a0 a1 a2 bt152.1 bt152.2 bt156.1 bt156.2 true)) else (halyardlaw01_OctetNumbers.j0 k a0 a1 a2 bt152.1 bt152.2 bt156.1 bt156.2 true))))))
theorem halyardlaw01_OctetNumbers.mono_l : ∀ k, (∀ y0 y1 y2 y3 y4 y5 y6 y7, LeO (halyardlaw01_OctetNumbers.j0 k y0 y1 y2 y3 y4 y5 y6 y7) (halyardlaw01_OctetNumbers.j0 (k + 1) y0 y1 y2 y3 y4 y5 y6 y7))
  | 0 => fun _ _ _ _ _ _ _ _ r h => by simp [halyardlaw01_OctetNumbers.j0] at h
  | k + 1 => by
    have ih0 := halyardlaw01_OctetNumbers.mono_l k
    · intro y0 y1 y2 y3 y4 y5 y6 y7
      unfold halyardlaw01_OctetNumbers.j0
      repeat' first
      | (with_reducible exact ih0 _ _ _ _ _ _ _ _)
      | (with_reducible exact halyardlaw01_alive.mono _)
      | (with_reducible exact halyardref01_Get.mono _ _ _)
      | (with_reducible exact halyardref01_Num.mono _ _ _)
      | (with_reducible exact LeO.refl _)
      | (with_reducible exact LeO.none _)
      | (with_reducible refine LeO.ite ?_ ?_)
      | (with_reducible refine LeO.bind ?_ (fun _ => ?_))
      | exact ih0 _ _ _ _ _ _ _ _
      | exact halyardlaw01_alive.mono _
      | exact halyardref01_Get.mono _ _ _
      | exact halyardref01_Num.mono _ _ _
      | exact LeO.none _
      | refine LeO.ite ?_ ?_
      | refine LeO.bind ?_ (fun _ => ?_)
theorem halyardlaw01_OctetNumbers.mono : ∀ a0 a1 a2 k, LeO (halyardlaw01_OctetNumbers.f k a0 a1 a2) (halyardlaw01_OctetNumbers.f (k + 1) a0 a1 a2) := by
  intro a0 a1 a2 k
  have ih0 := halyardlaw01_OctetNumbers.mono_l k
  unfold halyardlaw01_OctetNumbers.f
  repeat' first
      | (with_reducible exact ih0 _ _ _ _ _ _ _ _)
      | (with_reducible exact halyardlaw01_alive.mono _)
      | (with_reducible exact halyardref01_Get.mono _ _ _)
      | (with_reducible exact halyardref01_Num.mono _ _ _)
      | (with_reducible exact LeO.refl _)
      | (with_reducible exact LeO.none _)
      | (with_reducible refine LeO.ite ?_ ?_)
      | (with_reducible refine LeO.bind ?_ (fun _ => ?_))
      | exact ih0 _ _ _ _ _ _ _ _
      | exact halyardlaw01_alive.mono _
      | exact halyardref01_Get.mono _ _ _
      | exact halyardref01_Num.mono _ _ _
      | exact LeO.none _
      | refine LeO.ite ?_ ?_
      | refine LeO.bind ?_ (fun _ => ?_)
set_option maxHeartbeats 8000000 in
set_option maxRecDepth 100000 in
theorem halyardlaw01_OctetNumbers.calls (k : Nat) (a0 : Int) (a1 : Int) (a2 : ByteArray) (r : Bool) (w : World) (h : halyardlaw01_OctetNumbers.f k a0 a1 a2 = some r) :
    Calls Try.prog 8 #[.int .u16 a0, .int .u32 a1, .string a2] w fun e w' => e = .returned (.bool r) ∧ Below w.heap.size w w' := by
  have HB := Aside0.mk (Below.refl w.heap.size w)
  have H : (if (a2.size : Int) > 1024 then ((halyardlaw01_alive.f k).bind fun t151 => (some t151)) else ((octet_Get16.f a2).bind fun bt152 => ((halyardref01_Get.f k a2 2).bind fun bt154 => ((octet_Get32.f a2).bind fun bt156 => ((halyardref01_Get.f k a2 4).bind fun bt158 => (if (IntKind.u64.wrap (bt152.1)) = bt154.1 then (if bt152.2 = bt154.2 then (if (IntKind.u64.wrap (bt156.1)) = bt158.1 then (if bt156.2 = bt158.2 then ((octet_Put16.f a0).bind fun t160 => ((halyardref01_Num.f k (IntKind.u64.wrap (a0)) 2).bind fun t161 => (if t160.toList = t161.toList then ((octet_Put32.f a1).bind fun t162 => ((halyardref01_Num.f k (IntKind.u64.wrap (a1)) 4).bind fun t163 => (halyardlaw01_OctetNumbers.j0 k a0 a1 a2 bt152.1 bt152.2 bt156.1 bt156.2 (t162.toList != t163.toList)))) else (halyardlaw01_OctetNumbers.j0 k a0 a1 a2 bt152.1 bt152.2 bt156.1 bt156.2 true)))) else (halyardlaw01_OctetNumbers.j0 k a0 a1 a2 bt152.1 bt152.2 bt156.1 bt156.2 true)) else (halyardlaw01_OctetNumbers.j0 k a0 a1 a2 bt152.1 bt152.2 bt156.1 bt156.2 true)) else (halyardlaw01_OctetNumbers.j0 k a0 a1 a2 bt152.1 bt152.2 bt156.1 bt156.2 true)) else (halyardlaw01_OctetNumbers.j0 k a0 a1 a2 bt152.1 bt152.2 bt156.1 bt156.2 true))))))) = some r := h
  clear h
  by_cases c4 : (a2.size : Int) > 1024
  · rw [if_pos c4] at H
    have c4b0 : decide (1024 < (a2.size : Int)) = true := decide_eq_true c4
    have c4b1 : decide (1024 < a2.size) = true := decide_eq_true (by omega)
    clear c4
    replace H := Option.bind_eq_some_iff.mp H
    obtain ⟨t151, A50, H⟩ := H
    replace H : (some t151) = some r := H
    have A5 := Aside0.mk A50
    clear A50
    obtain rfl := Option.some.inj H
    go_enter Try.func8, Try.ntmps8
    go_wp2_with (first | ((with_reducible refine gate_callee (f := 23) rfl ?_); refine goesL_ (some 22) rfl rfl Try.func23 (by kernel_rfl) rfl #[] rfl (by (try simp only [List.map_toArray, List.map_cons, List.map_nil]); first | done | rfl | (simp only [List.length_drop, List.length_take]; rfl)) ?_; (with_reducible refine (halyardlaw01_alive.calls k  t151 _ A5.out).mono ?_); rintro e w6 ⟨rfl, hb⟩; refine ⟨_, rfl, ?_⟩; have n0_ := Aside0.mk (below_step (by repeat (first | (with_reducible first | exact HB.out | apply below_alloc | apply pw_below_drewN | apply below_drew1) | exact HB.out)) hb); clear HB; have HB := n0_; clear n0_; (try clear hb); (try clear hb2); (try clear hk); (try clear hi)))
    go_ret
    exact ⟨by first | rfl | (simp [errW_none, errW_some] <;> rfl) | (simp [*, errW_none, errW_some] <;> rfl), by repeat (first | (with_reducible first | exact HB.out | apply below_alloc | apply pw_below_drewN | apply below_drew1) | exact HB.out)⟩
  · rw [if_neg c4] at H
    have c4b0 : decide (1024 < (a2.size : Int)) = false := decide_eq_false c4
    have c4b1 : decide (1024 < a2.size) = false := decide_eq_false (by omega)
    clear c4
    replace H := Option.bind_eq_some_iff.mp H
    obtain ⟨⟨t152, t153⟩, A70, H⟩ := H
    replace H : ((halyardref01_Get.f k a2 2).bind fun bt154 => ((octet_Get32.f a2).bind fun bt156 => ((halyardref01_Get.f k a2 4).bind fun bt158 => (if (IntKind.u64.wrap (t152)) = bt154.1 then (if t153 = bt154.2 then (if (IntKind.u64.wrap (bt156.1)) = bt158.1 then (if bt156.2 = bt158.2 then ((octet_Put16.f a0).bind fun t160 => ((halyardref01_Num.f k (IntKind.u64.wrap (a0)) 2).bind fun t161 => (if t160.toList = t161.toList then ((octet_Put32.f a1).bind fun t162 => ((halyardref01_Num.f k (IntKind.u64.wrap (a1)) 4).bind fun t163 => (halyardlaw01_OctetNumbers.j0 k a0 a1 a2 t152 t153 bt156.1 bt156.2 (t162.toList != t163.toList)))) else (halyardlaw01_OctetNumbers.j0 k a0 a1 a2 t152 t153 bt156.1 bt156.2 true)))) else (halyardlaw01_OctetNumbers.j0 k a0 a1 a2 t152 t153 bt156.1 bt156.2 true)) else (halyardlaw01_OctetNumbers.j0 k a0 a1 a2 t152 t153 bt156.1 bt156.2 true)) else (halyardlaw01_OctetNumbers.j0 k a0 a1 a2 t152 t153 bt156.1 bt156.2 true)) else (halyardlaw01_OctetNumbers.j0 k a0 a1 a2 t152 t153 bt156.1 bt156.2 true))))) = some r := H
    have A7 := Aside0.mk A70
    clear A70
    replace H := Option.bind_eq_some_iff.mp H
    obtain ⟨⟨t154, t155⟩, A80, H⟩ := H
    replace H : ((octet_Get32.f a2).bind fun bt156 => ((halyardref01_Get.f k a2 4).bind fun bt158 => (if (IntKind.u64.wrap (t152)) = t154 then (if t153 = t155 then (if (IntKind.u64.wrap (bt156.1)) = bt158.1 then (if bt156.2 = bt158.2 then ((octet_Put16.f a0).bind fun t160 => ((halyardref01_Num.f k (IntKind.u64.wrap (a0)) 2).bind fun t161 => (if t160.toList = t161.toList then ((octet_Put32.f a1).bind fun t162 => ((halyardref01_Num.f k (IntKind.u64.wrap (a1)) 4).bind fun t163 => (halyardlaw01_OctetNumbers.j0 k a0 a1 a2 t152 t153 bt156.1 bt156.2 (t162.toList != t163.toList)))) else (halyardlaw01_OctetNumbers.j0 k a0 a1 a2 t152 t153 bt156.1 bt156.2 true)))) else (halyardlaw01_OctetNumbers.j0 k a0 a1 a2 t152 t153 bt156.1 bt156.2 true)) else (halyardlaw01_OctetNumbers.j0 k a0 a1 a2 t152 t153 bt156.1 bt156.2 true)) else (halyardlaw01_OctetNumbers.j0 k a0 a1 a2 t152 t153 bt156.1 bt156.2 true)) else (halyardlaw01_OctetNumbers.j0 k a0 a1 a2 t152 t153 bt156.1 bt156.2 true)))) = some r := H
    have A8 := Aside0.mk A80
    clear A80
    replace H := Option.bind_eq_some_iff.mp H
    obtain ⟨⟨t156, t157⟩, A90, H⟩ := H
    replace H : ((halyardref01_Get.f k a2 4).bind fun bt158 => (if (IntKind.u64.wrap (t152)) = t154 then (if t153 = t155 then (if (IntKind.u64.wrap (t156)) = bt158.1 then (if t157 = bt158.2 then ((octet_Put16.f a0).bind fun t160 => ((halyardref01_Num.f k (IntKind.u64.wrap (a0)) 2).bind fun t161 => (if t160.toList = t161.toList then ((octet_Put32.f a1).bind fun t162 => ((halyardref01_Num.f k (IntKind.u64.wrap (a1)) 4).bind fun t163 => (halyardlaw01_OctetNumbers.j0 k a0 a1 a2 t152 t153 t156 t157 (t162.toList != t163.toList)))) else (halyardlaw01_OctetNumbers.j0 k a0 a1 a2 t152 t153 t156 t157 true)))) else (halyardlaw01_OctetNumbers.j0 k a0 a1 a2 t152 t153 t156 t157 true)) else (halyardlaw01_OctetNumbers.j0 k a0 a1 a2 t152 t153 t156 t157 true)) else (halyardlaw01_OctetNumbers.j0 k a0 a1 a2 t152 t153 t156 t157 true)) else (halyardlaw01_OctetNumbers.j0 k a0 a1 a2 t152 t153 t156 t157 true))) = some r := H
    have A9 := Aside0.mk A90
    clear A90
    replace H := Option.bind_eq_some_iff.mp H
    obtain ⟨⟨t158, t159⟩, A100, H⟩ := H
    replace H : (if (IntKind.u64.wrap (t152)) = t154 then (if t153 = t155 then (if (IntKind.u64.wrap (t156)) = t158 then (if t157 = t159 then ((octet_Put16.f a0).bind fun t160 => ((halyardref01_Num.f k (IntKind.u64.wrap (a0)) 2).bind fun t161 => (if t160.toList = t161.toList then ((octet_Put32.f a1).bind fun t162 => ((halyardref01_Num.f k (IntKind.u64.wrap (a1)) 4).bind fun t163 => (halyardlaw01_OctetNumbers.j0 k a0 a1 a2 t152 t153 t156 t157 (t162.toList != t163.toList)))) else (halyardlaw01_OctetNumbers.j0 k a0 a1 a2 t152 t153 t156 t157 true)))) else (halyardlaw01_OctetNumbers.j0 k a0 a1 a2 t152 t153 t156 t157 true)) else (halyardlaw01_OctetNumbers.j0 k a0 a1 a2 t152 t153 t156 t157 true)) else (halyardlaw01_OctetNumbers.j0 k a0 a1 a2 t152 t153 t156 t157 true)) else (halyardlaw01_OctetNumbers.j0 k a0 a1 a2 t152 t153 t156 t157 true)) = some r := H
    have A10 := Aside0.mk A100
    clear A100
    have HC11 := Aside0.mk H
    clear H
    go_enter Try.func8, Try.ntmps8
    go_upto_region 7 with (first | ((with_reducible refine gate_callee (f := 26) rfl ?_); refine goesL_ (some 25) rfl rfl Try.func26 (by kernel_rfl) rfl #[.string a2] rfl (by (try simp only [List.map_toArray, List.map_cons, List.map_nil]); first | done | rfl | (simp only [List.length_drop, List.length_take]; rfl)) ?_; (with_reducible refine (octet_Get16.calls a2 t152 t153 _ A7.out).mono ?_); rintro e w' ⟨rfl, ⟨nd, rfl⟩⟩; refine ⟨_, rfl, ?_⟩) | ((with_reducible refine gate_callee (f := 27) rfl ?_); refine goesL_ (some 30) rfl rfl Try.func27 (by kernel_rfl) rfl #[.string a2, .int .i64 2] rfl (by (try simp only [List.map_toArray, List.map_cons, List.map_nil]); first | done | rfl | (simp only [List.length_drop, List.length_take]; rfl)) ?_; (with_reducible refine (halyardref01_Get.calls k a2 2 t154 t155 _ A8.out).mono ?_); rintro e w' ⟨rfl, ⟨nd, rfl⟩⟩; refine ⟨_, rfl, ?_⟩) | ((with_reducible refine gate_callee (f := 28) rfl ?_); refine goesL_ (some 35) rfl rfl Try.func28 (by kernel_rfl) rfl #[.string a2] rfl (by (try simp only [List.map_toArray, List.map_cons, List.map_nil]); first | done | rfl | (simp only [List.length_drop, List.length_take]; rfl)) ?_; (with_reducible refine (octet_Get32.calls a2 t156 t157 _ A9.out).mono ?_); rintro e w' ⟨rfl, ⟨nd, rfl⟩⟩; refine ⟨_, rfl, ?_⟩) | ((with_reducible refine gate_callee (f := 27) rfl ?_); refine goesL_ (some 40) rfl rfl Try.func27 (by kernel_rfl) rfl #[.string a2, .int .i64 4] rfl (by (try simp only [List.map_toArray, List.map_cons, List.map_nil]); first | done | rfl | (simp only [List.length_drop, List.length_take]; rfl)) ?_; (with_reducible refine (halyardref01_Get.calls k a2 4 t158 t159 _ A10.out).mono ?_); rintro e w' ⟨rfl, ⟨nd, rfl⟩⟩; refine ⟨_, rfl, ?_⟩))
    (try simp only [Act.put, List.setIfInBounds_toArray, List.set_cons_zero, List.set_cons_succ])
    go_cut [78] (fun v78 wc => ∃ (kq : Nat) (x78_10 : Bool), v78 = .bool x78_10 ∧ Aside0 (halyardlaw01_OctetNumbers.j0 kq a0 a1 a2 t152 t153 t156 t157 x78_10 = some r) ∧ Aside0 (kq ≤ k) ∧ Aside0 (Below w.heap.size w wc))
    case first =>
      have H := HC11.out
      clear HC11
      by_cases c12 : (IntKind.u64.wrap (t152)) = t154
      · rw [if_pos c12] at H
        have c12b0 : ((IntKind.u64.wrap (t152)) == t154) = true := beq_iff_eq.mpr c12
        have c12b1 : ((IntKind.u64.wrap (t152)) != t154) = false := bne_eq_false_iff_eq.mpr c12
        clear c12
        (first | rw [c12b0] | (simp only [i64_w, i32_w]; rw [c12b0]) | skip)
        by_cases c13 : t153 = t155
        · rw [if_pos c13] at H
          have c13b0 : (t153 == t155) = true := beq_iff_eq.mpr c13
          have c13b1 : (t153 != t155) = false := bne_eq_false_iff_eq.mpr c13
          clear c13
          by_cases c14 : (IntKind.u64.wrap (t156)) = t158
          · rw [if_pos c14] at H
            have c14b0 : ((IntKind.u64.wrap (t156)) == t158) = true := beq_iff_eq.mpr c14
            have c14b1 : ((IntKind.u64.wrap (t156)) != t158) = false := bne_eq_false_iff_eq.mpr c14
            clear c14
            by_cases c15 : t157 = t159
            · rw [if_pos c15] at H
              have c15b0 : (t157 == t159) = true := beq_iff_eq.mpr c15
              have c15b1 : (t157 != t159) = false := bne_eq_false_iff_eq.mpr c15
              clear c15
              replace H := Option.bind_eq_some_iff.mp H
              obtain ⟨t160, A160, H⟩ := H
              replace H : ((halyardref01_Num.f k (IntKind.u64.wrap (a0)) 2).bind fun t161 => (if t160.toList = t161.toList then ((octet_Put32.f a1).bind fun t162 => ((halyardref01_Num.f k (IntKind.u64.wrap (a1)) 4).bind fun t163 => (halyardlaw01_OctetNumbers.j0 k a0 a1 a2 t152 t153 t156 t157 (t162.toList != t163.toList)))) else (halyardlaw01_OctetNumbers.j0 k a0 a1 a2 t152 t153 t156 t157 true))) = some r := H
              have A16 := Aside0.mk A160
              clear A160
              replace H := Option.bind_eq_some_iff.mp H
              obtain ⟨t161, A170, H⟩ := H
              replace H : (if t160.toList = t161.toList then ((octet_Put32.f a1).bind fun t162 => ((halyardref01_Num.f k (IntKind.u64.wrap (a1)) 4).bind fun t163 => (halyardlaw01_OctetNumbers.j0 k a0 a1 a2 t152 t153 t156 t157 (t162.toList != t163.toList)))) else (halyardlaw01_OctetNumbers.j0 k a0 a1 a2 t152 t153 t156 t157 true)) = some r := H
              have A17 := Aside0.mk A170
              clear A170
              by_cases c18 : t160.toList = t161.toList
              · rw [if_pos c18] at H
                have c18b0 : (t160.toList == t161.toList) = true := beq_iff_eq.mpr c18
                have c18b1 : (t160.toList != t161.toList) = false := bne_eq_false_iff_eq.mpr c18
                clear c18
                replace H := Option.bind_eq_some_iff.mp H
                obtain ⟨t162, A190, H⟩ := H
                replace H : ((halyardref01_Num.f k (IntKind.u64.wrap (a1)) 4).bind fun t163 => (halyardlaw01_OctetNumbers.j0 k a0 a1 a2 t152 t153 t156 t157 (t162.toList != t163.toList))) = some r := H
                have A19 := Aside0.mk A190
                clear A190
                replace H := Option.bind_eq_some_iff.mp H
                obtain ⟨t163, A200, H⟩ := H
                replace H : (halyardlaw01_OctetNumbers.j0 k a0 a1 a2 t152 t153 t156 t157 (t162.toList != t163.toList)) = some r := H
                have A20 := Aside0.mk A200
                clear A200
                have H' := Aside0.mk H
                clear H
                go_wp2_with (first | (go_at_call 29; (with_reducible refine (octet_Put16.calls a0 t160 _ A16.out).mono ?_); rintro e w21 ⟨rfl, hb⟩; have n0_ := Aside0.mk (below_step (by repeat (first | (with_reducible first | exact HB.out | apply below_alloc | apply pw_below_drewN | apply below_drew1) | exact HB.out)) hb); clear HB; have HB := n0_; clear n0_; (try clear hb); (try clear hb2); (try clear hk); (try clear hi)) | (go_at_call 30; (with_reducible refine (halyardref01_Num.calls k (IntKind.u64.wrap (a0)) 2 t161 _ A17.out).mono ?_); rintro e w22 ⟨rfl, hb⟩; have n0_ := Aside0.mk (below_step (by repeat (first | (with_reducible first | exact HB.out | apply below_alloc | apply pw_below_drewN | apply below_drew1) | exact HB.out)) hb); clear HB; have HB := n0_; clear n0_; (try clear hb); (try clear hb2); (try clear hk); (try clear hi)) | (go_at_call 31; (with_reducible refine (octet_Put32.calls a1 t162 _ A19.out).mono ?_); rintro e w23 ⟨rfl, hb⟩; have n0_ := Aside0.mk (below_step (by repeat (first | (with_reducible first | exact HB.out | apply below_alloc | apply pw_below_drewN | apply below_drew1) | exact HB.out)) hb); clear HB; have HB := n0_; clear n0_; (try clear hb); (try clear hb2); (try clear hk); (try clear hi)) | (go_at_call 30; (with_reducible refine (halyardref01_Num.calls k (IntKind.u64.wrap (a1)) 4 t163 _ A20.out).mono ?_); rintro e w24 ⟨rfl, hb⟩; have n0_ := Aside0.mk (below_step (by repeat (first | (with_reducible first | exact HB.out | apply below_alloc | apply pw_below_drewN | apply below_drew1) | exact HB.out)) hb); clear HB; have HB := n0_; clear n0_; (try clear hb); (try clear hb2); (try clear hk); (try clear hi)))
                go_meet
                case rel => exact ⟨_, ((t162.toList != t163.toList)), (by first | rfl | (simp; done) | (simp [*]; done)), H', ⟨by first | omega | exact Nat.le_refl _⟩, ⟨by repeat (first | (with_reducible first | exact HB.out | apply below_alloc | apply pw_below_drewN | apply below_drew1) | exact HB.out)⟩⟩
              · rw [if_neg c18] at H
                have c18b0 : (t160.toList == t161.toList) = false := beq_eq_false_iff_ne.mpr c18
                have c18b1 : (t160.toList != t161.toList) = true := bne_iff_ne.mpr c18
                have H' := Aside0.mk H
                clear H
                go_wp2_with (first | (go_at_call 29; (with_reducible refine (octet_Put16.calls a0 t160 _ A16.out).mono ?_); rintro e w25 ⟨rfl, hb⟩; have n0_ := Aside0.mk (below_step (by repeat (first | (with_reducible first | exact HB.out | apply below_alloc | apply pw_below_drewN | apply below_drew1) | exact HB.out)) hb); clear HB; have HB := n0_; clear n0_; (try clear hb); (try clear hb2); (try clear hk); (try clear hi)) | (go_at_call 30; (with_reducible refine (halyardref01_Num.calls k (IntKind.u64.wrap (a0)) 2 t161 _ A17.out).mono ?_); rintro e w26 ⟨rfl, hb⟩; have n0_ := Aside0.mk (below_step (by repeat (first | (with_reducible first | exact HB.out | apply below_alloc | apply pw_below_drewN | apply below_drew1) | exact HB.out)) hb); clear HB; have HB := n0_; clear n0_; (try clear hb); (try clear hb2); (try clear hk); (try clear hi)))
                go_meet
                case rel => exact ⟨_, (true), (by first | rfl | (simp; done) | (simp [*]; done)), H', ⟨by first | omega | exact Nat.le_refl _⟩, ⟨by repeat (first | (with_reducible first | exact HB.out | apply below_alloc | apply pw_below_drewN | apply below_drew1) | exact HB.out)⟩⟩
            · rw [if_neg c15] at H
              have c15b0 : (t157 == t159) = false := beq_eq_false_iff_ne.mpr c15
              have c15b1 : (t157 != t159) = true := bne_iff_ne.mpr c15
              have H' := Aside0.mk H
              clear H
              go_wp2
              go_meet
              case rel => exact ⟨_, (true), (by first | rfl | (simp; done) | (simp [*]; done)), H', ⟨by first | omega | exact Nat.le_refl _⟩, ⟨by repeat (first | (with_reducible first | exact HB.out | apply below_alloc | apply pw_below_drewN | apply below_drew1) | exact HB.out)⟩⟩
          · rw [if_neg c14] at H
            have c14b0 : ((IntKind.u64.wrap (t156)) == t158) = false := beq_eq_false_iff_ne.mpr c14
            have c14b1 : ((IntKind.u64.wrap (t156)) != t158) = true := bne_iff_ne.mpr c14
            have H' := Aside0.mk H
            clear H
            go_wp2
            go_meet
            case rel => exact ⟨_, (true), (by first | rfl | (simp; done) | (simp [*]; done)), H', ⟨by first | omega | exact Nat.le_refl _⟩, ⟨by repeat (first | (with_reducible first | exact HB.out | apply below_alloc | apply pw_below_drewN | apply below_drew1) | exact HB.out)⟩⟩
        · rw [if_neg c13] at H
          have c13b0 : (t153 == t155) = false := beq_eq_false_iff_ne.mpr c13
          have c13b1 : (t153 != t155) = true := bne_iff_ne.mpr c13
          have H' := Aside0.mk H
          clear H
          go_wp2
          go_meet
          case rel => exact ⟨_, (true), (by first | rfl | (simp; done) | (simp [*]; done)), H', ⟨by first | omega | exact Nat.le_refl _⟩, ⟨by repeat (first | (with_reducible first | exact HB.out | apply below_alloc | apply pw_below_drewN | apply below_drew1) | exact HB.out)⟩⟩
      · rw [if_neg c12] at H
        have c12b0 : ((IntKind.u64.wrap (t152)) == t154) = false := beq_eq_false_iff_ne.mpr c12
        have c12b1 : ((IntKind.u64.wrap (t152)) != t154) = true := bne_iff_ne.mpr c12
        (first | rw [c12b0] | (simp only [i64_w, i32_w]; rw [c12b0]) | skip)
        have H' := Aside0.mk H
        clear H
        go_wp2
        go_meet
        case rel => exact ⟨_, (true), (by first | rfl | (simp; done) | (simp [*]; done)), H', ⟨by first | omega | exact Nat.le_refl _⟩, ⟨by repeat (first | (with_reducible first | exact HB.out | apply below_alloc | apply pw_below_drewN | apply below_drew1) | exact HB.out)⟩⟩
    case rest =>
      clear HC11
      try clear c1
      try clear c2
      try clear p2
      try clear c4
      try clear c4b0
      try clear c4b1
      try clear c8
      try clear c12
      try clear c12b0
      try clear c12b1
      try clear c13
      try clear c13b0
      try clear c13b1
      try clear c14
      try clear c14b0
      try clear c14b1
      try clear c15
      try clear c15b0
      try clear c15b1
      try clear c18
      try clear c18b0
      try clear c18b1
      try clear c23
      try clear c26
      obtain ⟨kq, x78_10, rfl, HA, HJ10, HB⟩ := hcut
      cases kq with
      | zero => exact absurd HA.out (by simp [halyardlaw01_OctetNumbers.j0])
      | succ kj10 =>
        have H := HA.out
        clear HA
        simp only [halyardlaw01_OctetNumbers.j0] at H
        by_cases c27 : x78_10 = true
        · subst c27
          have H1 : (some false) = some r := by rw [if_pos rfl] at H; exact H
          clear H
          have H := H1
          clear H1
          obtain rfl := Option.some.inj H
          go_wp2
          go_ret
          exact ⟨by first | rfl | (simp [errW_none, errW_some] <;> rfl) | (simp [*, errW_none, errW_some] <;> rfl), by repeat (first | (with_reducible first | exact HB.out | apply below_alloc | apply pw_below_drewN | apply below_drew1) | exact HB.out)⟩
        · replace c27 := Bool.eq_false_iff.mpr c27
          subst c27
          have H1 : ((octet_Put16.f a0).bind fun t164 => ((octet_Get16.f t164).bind fun bt165 => ((octet_Put32.f a1).bind fun t167 => ((octet_Get32.f t167).bind fun bt168 => (if bt165.1 = a0 then (if bt165.2 = 0 then (if bt168.1 = a1 then (if bt168.2 = 0 then (if t153 = 0 then ((octet_Put16.f t152).bind fun t170 => (if t170.toList = a2.toList then (if t157 = 0 then ((octet_Put32.f t156).bind fun t171 => (if t171.toList = a2.toList then ((halyardlaw01_alive.f kj10).bind fun t172 => (some t172)) else (some false))) else ((halyardlaw01_alive.f kj10).bind fun t173 => (some t173))) else (some false))) else (if t157 = 0 then ((octet_Put32.f t156).bind fun t174 => (if t174.toList = a2.toList then ((halyardlaw01_alive.f kj10).bind fun t175 => (some t175)) else (some false))) else ((halyardlaw01_alive.f kj10).bind fun t176 => (some t176)))) else (some false)) else (some false)) else (some false)) else (some false)))))) = some r := by rw [if_neg (show ¬ (false = true) by decide)] at H; exact H
          clear H
          have H := H1
          clear H1
          replace H := Option.bind_eq_some_iff.mp H
          obtain ⟨t164, A280, H⟩ := H
          replace H : ((octet_Get16.f t164).bind fun bt165 => ((octet_Put32.f a1).bind fun t167 => ((octet_Get32.f t167).bind fun bt168 => (if bt165.1 = a0 then (if bt165.2 = 0 then (if bt168.1 = a1 then (if bt168.2 = 0 then (if t153 = 0 then ((octet_Put16.f t152).bind fun t170 => (if t170.toList = a2.toList then (if t157 = 0 then ((octet_Put32.f t156).bind fun t171 => (if t171.toList = a2.toList then ((halyardlaw01_alive.f kj10).bind fun t172 => (some t172)) else (some false))) else ((halyardlaw01_alive.f kj10).bind fun t173 => (some t173))) else (some false))) else (if t157 = 0 then ((octet_Put32.f t156).bind fun t174 => (if t174.toList = a2.toList then ((halyardlaw01_alive.f kj10).bind fun t175 => (some t175)) else (some false))) else ((halyardlaw01_alive.f kj10).bind fun t176 => (some t176)))) else (some false)) else (some false)) else (some false)) else (some false))))) = some r := H
          have A28 := Aside0.mk A280
          clear A280
          replace H := Option.bind_eq_some_iff.mp H
          obtain ⟨⟨t165, t166⟩, A290, H⟩ := H
          replace H : ((octet_Put32.f a1).bind fun t167 => ((octet_Get32.f t167).bind fun bt168 => (if t165 = a0 then (if t166 = 0 then (if bt168.1 = a1 then (if bt168.2 = 0 then (if t153 = 0 then ((octet_Put16.f t152).bind fun t170 => (if t170.toList = a2.toList then (if t157 = 0 then ((octet_Put32.f t156).bind fun t171 => (if t171.toList = a2.toList then ((halyardlaw01_alive.f kj10).bind fun t172 => (some t172)) else (some false))) else ((halyardlaw01_alive.f kj10).bind fun t173 => (some t173))) else (some false))) else (if t157 = 0 then ((octet_Put32.f t156).bind fun t174 => (if t174.toList = a2.toList then ((halyardlaw01_alive.f kj10).bind fun t175 => (some t175)) else (some false))) else ((halyardlaw01_alive.f kj10).bind fun t176 => (some t176)))) else (some false)) else (some false)) else (some false)) else (some false)))) = some r := H
          have A29 := Aside0.mk A290
          clear A290
          replace H := Option.bind_eq_some_iff.mp H
          obtain ⟨t167, A300, H⟩ := H
          replace H : ((octet_Get32.f t167).bind fun bt168 => (if t165 = a0 then (if t166 = 0 then (if bt168.1 = a1 then (if bt168.2 = 0 then (if t153 = 0 then ((octet_Put16.f t152).bind fun t170 => (if t170.toList = a2.toList then (if t157 = 0 then ((octet_Put32.f t156).bind fun t171 => (if t171.toList = a2.toList then ((halyardlaw01_alive.f kj10).bind fun t172 => (some t172)) else (some false))) else ((halyardlaw01_alive.f kj10).bind fun t173 => (some t173))) else (some false))) else (if t157 = 0 then ((octet_Put32.f t156).bind fun t174 => (if t174.toList = a2.toList then ((halyardlaw01_alive.f kj10).bind fun t175 => (some t175)) else (some false))) else ((halyardlaw01_alive.f kj10).bind fun t176 => (some t176)))) else (some false)) else (some false)) else (some false)) else (some false))) = some r := H
          have A30 := Aside0.mk A300
          clear A300
          replace H := Option.bind_eq_some_iff.mp H
          obtain ⟨⟨t168, t169⟩, A310, H⟩ := H
          replace H : (if t165 = a0 then (if t166 = 0 then (if t168 = a1 then (if t169 = 0 then (if t153 = 0 then ((octet_Put16.f t152).bind fun t170 => (if t170.toList = a2.toList then (if t157 = 0 then ((octet_Put32.f t156).bind fun t171 => (if t171.toList = a2.toList then ((halyardlaw01_alive.f kj10).bind fun t172 => (some t172)) else (some false))) else ((halyardlaw01_alive.f kj10).bind fun t173 => (some t173))) else (some false))) else (if t157 = 0 then ((octet_Put32.f t156).bind fun t174 => (if t174.toList = a2.toList then ((halyardlaw01_alive.f kj10).bind fun t175 => (some t175)) else (some false))) else ((halyardlaw01_alive.f kj10).bind fun t176 => (some t176)))) else (some false)) else (some false)) else (some false)) else (some false)) = some r := H
          have A31 := Aside0.mk A310
          clear A310
          by_cases c32 : t165 = a0
          · rw [if_pos c32] at H
            have c32b0 : (t165 == a0) = true := beq_iff_eq.mpr c32
            have c32b1 : (t165 != a0) = false := bne_eq_false_iff_eq.mpr c32
            clear c32
            by_cases c33 : t166 = 0
            · rw [if_pos c33] at H
              have c33b0 : (t166 == 0) = true := beq_iff_eq.mpr c33
              have c33b1 : (t166 != 0) = false := bne_eq_false_iff_eq.mpr c33
              clear c33
              by_cases c34 : t168 = a1
              · rw [if_pos c34] at H
                have c34b0 : (t168 == a1) = true := beq_iff_eq.mpr c34
                have c34b1 : (t168 != a1) = false := bne_eq_false_iff_eq.mpr c34
                clear c34
                by_cases c35 : t169 = 0
                · rw [if_pos c35] at H
                  have c35b0 : (t169 == 0) = true := beq_iff_eq.mpr c35
                  have c35b1 : (t169 != 0) = false := bne_eq_false_iff_eq.mpr c35
                  clear c35
                  by_cases c36 : t153 = 0
                  · rw [if_pos c36] at H
                    have c36b0 : (t153 == 0) = true := beq_iff_eq.mpr c36
                    have c36b1 : (t153 != 0) = false := bne_eq_false_iff_eq.mpr c36
                    clear c36
                    replace H := Option.bind_eq_some_iff.mp H
                    obtain ⟨t170, A370, H⟩ := H
                    replace H : (if t170.toList = a2.toList then (if t157 = 0 then ((octet_Put32.f t156).bind fun t171 => (if t171.toList = a2.toList then ((halyardlaw01_alive.f kj10).bind fun t172 => (some t172)) else (some false))) else ((halyardlaw01_alive.f kj10).bind fun t173 => (some t173))) else (some false)) = some r := H
                    have A37 := Aside0.mk A370
                    clear A370
                    by_cases c38 : t170.toList = a2.toList
                    · rw [if_pos c38] at H
                      have c38b0 : (t170.toList == a2.toList) = true := beq_iff_eq.mpr c38
                      have c38b1 : (t170.toList != a2.toList) = false := bne_eq_false_iff_eq.mpr c38
                      clear c38
                      by_cases c39 : t157 = 0
                      · rw [if_pos c39] at H
                        have c39b0 : (t157 == 0) = true := beq_iff_eq.mpr c39
                        have c39b1 : (t157 != 0) = false := bne_eq_false_iff_eq.mpr c39
                        clear c39
                        replace H := Option.bind_eq_some_iff.mp H
                        obtain ⟨t171, A400, H⟩ := H
                        replace H : (if t171.toList = a2.toList then ((halyardlaw01_alive.f kj10).bind fun t172 => (some t172)) else (some false)) = some r := H
                        have A40 := Aside0.mk A400
                        clear A400
                        by_cases c41 : t171.toList = a2.toList
                        · rw [if_pos c41] at H
                          have c41b0 : (t171.toList == a2.toList) = true := beq_iff_eq.mpr c41
                          have c41b1 : (t171.toList != a2.toList) = false := bne_eq_false_iff_eq.mpr c41
                          clear c41
                          replace H := Option.bind_eq_some_iff.mp H
                          obtain ⟨t172, A420, H⟩ := H
                          replace H : (some t172) = some r := H
                          have A42 := Aside0.mk A420
                          clear A420
                          obtain rfl := Option.some.inj H
                          go_wp2_with (first | ((with_reducible refine gate_callee (f := 29) rfl ?_); refine goesL_ (some 81) rfl rfl Try.func29 (by kernel_rfl) rfl #[.int .u16 a0] rfl (by (try simp only [List.map_toArray, List.map_cons, List.map_nil]); first | done | rfl | (simp only [List.length_drop, List.length_take]; rfl)) ?_; (with_reducible refine (octet_Put16.calls a0 t164 _ A28.out).mono ?_); rintro e w43 ⟨rfl, hb⟩; refine ⟨_, rfl, ?_⟩; have n0_ := Aside0.mk (below_step (by repeat (first | (with_reducible first | exact HB.out | apply below_alloc | apply pw_below_drewN | apply below_drew1) | exact HB.out)) hb); clear HB; have HB := n0_; clear n0_; (try clear hb); (try clear hb2); (try clear hk); (try clear hi)) | ((with_reducible refine gate_callee (f := 26) rfl ?_); refine goesL_ (some 82) rfl rfl Try.func26 (by kernel_rfl) rfl #[.string t164] rfl (by (try simp only [List.map_toArray, List.map_cons, List.map_nil]); first | done | rfl | (simp only [List.length_drop, List.length_take]; rfl)) ?_; (with_reducible refine (octet_Get16.calls t164 t165 t166 _ A29.out).mono ?_); rintro e w' ⟨rfl, ⟨nd, rfl⟩⟩; refine ⟨_, rfl, ?_⟩) | ((with_reducible refine gate_callee (f := 31) rfl ?_); refine goesL_ (some 87) rfl rfl Try.func31 (by kernel_rfl) rfl #[.int .u32 a1] rfl (by (try simp only [List.map_toArray, List.map_cons, List.map_nil]); first | done | rfl | (simp only [List.length_drop, List.length_take]; rfl)) ?_; (with_reducible refine (octet_Put32.calls a1 t167 _ A30.out).mono ?_); rintro e w44 ⟨rfl, hb⟩; refine ⟨_, rfl, ?_⟩; have n0_ := Aside0.mk (below_step (by repeat (first | (with_reducible first | exact HB.out | apply below_alloc | apply pw_below_drewN | apply below_drew1) | exact HB.out)) hb); clear HB; have HB := n0_; clear n0_; (try clear hb); (try clear hb2); (try clear hk); (try clear hi)) | ((with_reducible refine gate_callee (f := 28) rfl ?_); refine goesL_ (some 88) rfl rfl Try.func28 (by kernel_rfl) rfl #[.string t167] rfl (by (try simp only [List.map_toArray, List.map_cons, List.map_nil]); first | done | rfl | (simp only [List.length_drop, List.length_take]; rfl)) ?_; (with_reducible refine (octet_Get32.calls t167 t168 t169 _ A31.out).mono ?_); rintro e w' ⟨rfl, ⟨nd, rfl⟩⟩; refine ⟨_, rfl, ?_⟩) | (go_at_call 29; (with_reducible refine (octet_Put16.calls t152 t170 _ A37.out).mono ?_); rintro e w45 ⟨rfl, hb⟩; have n0_ := Aside0.mk (below_step (by repeat (first | (with_reducible first | exact HB.out | apply below_alloc | apply pw_below_drewN | apply below_drew1) | exact HB.out)) hb); clear HB; have HB := n0_; clear n0_; (try clear hb); (try clear hb2); (try clear hk); (try clear hi)) | (go_at_call 31; (with_reducible refine (octet_Put32.calls t156 t171 _ A40.out).mono ?_); rintro e w46 ⟨rfl, hb⟩; have n0_ := Aside0.mk (below_step (by repeat (first | (with_reducible first | exact HB.out | apply below_alloc | apply pw_below_drewN | apply below_drew1) | exact HB.out)) hb); clear HB; have HB := n0_; clear n0_; (try clear hb); (try clear hb2); (try clear hk); (try clear hi)) | (go_at_call 23; (with_reducible refine (halyardlaw01_alive.calls kj10  t172 _ A42.out).mono ?_); rintro e w47 ⟨rfl, hb⟩; have n0_ := Aside0.mk (below_step (by repeat (first | (with_reducible first | exact HB.out | apply below_alloc | apply pw_below_drewN | apply below_drew1) | exact HB.out)) hb); clear HB; have HB := n0_; clear n0_; (try clear hb); (try clear hb2); (try clear hk); (try clear hi)))
                          go_ret
                          exact ⟨by first | rfl | (simp [errW_none, errW_some] <;> rfl) | (simp [*, errW_none, errW_some] <;> rfl), by repeat (first | (with_reducible first | exact HB.out | apply below_alloc | apply pw_below_drewN | apply below_drew1) | exact HB.out)⟩
                        · rw [if_neg c41] at H
                          have c41b0 : (t171.toList == a2.toList) = false := beq_eq_false_iff_ne.mpr c41
                          have c41b1 : (t171.toList != a2.toList) = true := bne_iff_ne.mpr c41
                          obtain rfl := Option.some.inj H
                          go_wp2_with (first | ((with_reducible refine gate_callee (f := 29) rfl ?_); refine goesL_ (some 81) rfl rfl Try.func29 (by kernel_rfl) rfl #[.int .u16 a0] rfl (by (try simp only [List.map_toArray, List.map_cons, List.map_nil]); first | done | rfl | (simp only [List.length_drop, List.length_take]; rfl)) ?_; (with_reducible refine (octet_Put16.calls a0 t164 _ A28.out).mono ?_); rintro e w48 ⟨rfl, hb⟩; refine ⟨_, rfl, ?_⟩; have n0_ := Aside0.mk (below_step (by repeat (first | (with_reducible first | exact HB.out | apply below_alloc | apply pw_below_drewN | apply below_drew1) | exact HB.out)) hb); clear HB; have HB := n0_; clear n0_; (try clear hb); (try clear hb2); (try clear hk); (try clear hi)) | ((with_reducible refine gate_callee (f := 26) rfl ?_); refine goesL_ (some 82) rfl rfl Try.func26 (by kernel_rfl) rfl #[.string t164] rfl (by (try simp only [List.map_toArray, List.map_cons, List.map_nil]); first | done | rfl | (simp only [List.length_drop, List.length_take]; rfl)) ?_; (with_reducible refine (octet_Get16.calls t164 t165 t166 _ A29.out).mono ?_); rintro e w' ⟨rfl, ⟨nd, rfl⟩⟩; refine ⟨_, rfl, ?_⟩) | ((with_reducible refine gate_callee (f := 31) rfl ?_); refine goesL_ (some 87) rfl rfl Try.func31 (by kernel_rfl) rfl #[.int .u32 a1] rfl (by (try simp only [List.map_toArray, List.map_cons, List.map_nil]); first | done | rfl | (simp only [List.length_drop, List.length_take]; rfl)) ?_; (with_reducible refine (octet_Put32.calls a1 t167 _ A30.out).mono ?_); rintro e w49 ⟨rfl, hb⟩; refine ⟨_, rfl, ?_⟩; have n0_ := Aside0.mk (below_step (by repeat (first | (with_reducible first | exact HB.out | apply below_alloc | apply pw_below_drewN | apply below_drew1) | exact HB.out)) hb); clear HB; have HB := n0_; clear n0_; (try clear hb); (try clear hb2); (try clear hk); (try clear hi)) | ((with_reducible refine gate_callee (f := 28) rfl ?_); refine goesL_ (some 88) rfl rfl Try.func28 (by kernel_rfl) rfl #[.string t167] rfl (by (try simp only [List.map_toArray, List.map_cons, List.map_nil]); first | done | rfl | (simp only [List.length_drop, List.length_take]; rfl)) ?_; (with_reducible refine (octet_Get32.calls t167 t168 t169 _ A31.out).mono ?_); rintro e w' ⟨rfl, ⟨nd, rfl⟩⟩; refine ⟨_, rfl, ?_⟩) | (go_at_call 29; (with_reducible refine (octet_Put16.calls t152 t170 _ A37.out).mono ?_); rintro e w50 ⟨rfl, hb⟩; have n0_ := Aside0.mk (below_step (by repeat (first | (with_reducible first | exact HB.out | apply below_alloc | apply pw_below_drewN | apply below_drew1) | exact HB.out)) hb); clear HB; have HB := n0_; clear n0_; (try clear hb); (try clear hb2); (try clear hk); (try clear hi)) | (go_at_call 31; (with_reducible refine (octet_Put32.calls t156 t171 _ A40.out).mono ?_); rintro e w51 ⟨rfl, hb⟩; have n0_ := Aside0.mk (below_step (by repeat (first | (with_reducible first | exact HB.out | apply below_alloc | apply pw_below_drewN | apply below_drew1) | exact HB.out)) hb); clear HB; have HB := n0_; clear n0_; (try clear hb); (try clear hb2); (try clear hk); (try clear hi)))
                          go_ret
                          exact ⟨by first | rfl | (simp [errW_none, errW_some] <;> rfl) | (simp [*, errW_none, errW_some] <;> rfl), by repeat (first | (with_reducible first | exact HB.out | apply below_alloc | apply pw_below_drewN | apply below_drew1) | exact HB.out)⟩
                      · rw [if_neg c39] at H
                        have c39b0 : (t157 == 0) = false := beq_eq_false_iff_ne.mpr c39
                        have c39b1 : (t157 != 0) = true := bne_iff_ne.mpr c39
                        replace H := Option.bind_eq_some_iff.mp H
                        obtain ⟨t173, A520, H⟩ := H
                        replace H : (some t173) = some r := H
                        have A52 := Aside0.mk A520
                        clear A520
                        obtain rfl := Option.some.inj H
                        go_wp2_with (first | ((with_reducible refine gate_callee (f := 29) rfl ?_); refine goesL_ (some 81) rfl rfl Try.func29 (by kernel_rfl) rfl #[.int .u16 a0] rfl (by (try simp only [List.map_toArray, List.map_cons, List.map_nil]); first | done | rfl | (simp only [List.length_drop, List.length_take]; rfl)) ?_; (with_reducible refine (octet_Put16.calls a0 t164 _ A28.out).mono ?_); rintro e w53 ⟨rfl, hb⟩; refine ⟨_, rfl, ?_⟩; have n0_ := Aside0.mk (below_step (by repeat (first | (with_reducible first | exact HB.out | apply below_alloc | apply pw_below_drewN | apply below_drew1) | exact HB.out)) hb); clear HB; have HB := n0_; clear n0_; (try clear hb); (try clear hb2); (try clear hk); (try clear hi)) | ((with_reducible refine gate_callee (f := 26) rfl ?_); refine goesL_ (some 82) rfl rfl Try.func26 (by kernel_rfl) rfl #[.string t164] rfl (by (try simp only [List.map_toArray, List.map_cons, List.map_nil]); first | done | rfl | (simp only [List.length_drop, List.length_take]; rfl)) ?_; (with_reducible refine (octet_Get16.calls t164 t165 t166 _ A29.out).mono ?_); rintro e w' ⟨rfl, ⟨nd, rfl⟩⟩; refine ⟨_, rfl, ?_⟩) | ((with_reducible refine gate_callee (f := 31) rfl ?_); refine goesL_ (some 87) rfl rfl Try.func31 (by kernel_rfl) rfl #[.int .u32 a1] rfl (by (try simp only [List.map_toArray, List.map_cons, List.map_nil]); first | done | rfl | (simp only [List.length_drop, List.length_take]; rfl)) ?_; (with_reducible refine (octet_Put32.calls a1 t167 _ A30.out).mono ?_); rintro e w54 ⟨rfl, hb⟩; refine ⟨_, rfl, ?_⟩; have n0_ := Aside0.mk (below_step (by repeat (first | (with_reducible first | exact HB.out | apply below_alloc | apply pw_below_drewN | apply below_drew1) | exact HB.out)) hb); clear HB; have HB := n0_; clear n0_; (try clear hb); (try clear hb2); (try clear hk); (try clear hi)) | ((with_reducible refine gate_callee (f := 28) rfl ?_); refine goesL_ (some 88) rfl rfl Try.func28 (by kernel_rfl) rfl #[.string t167] rfl (by (try simp only [List.map_toArray, List.map_cons, List.map_nil]); first | done | rfl | (simp only [List.length_drop, List.length_take]; rfl)) ?_; (with_reducible refine (octet_Get32.calls t167 t168 t169 _ A31.out).mono ?_); rintro e w' ⟨rfl, ⟨nd, rfl⟩⟩; refine ⟨_, rfl, ?_⟩) | (go_at_call 29; (with_reducible refine (octet_Put16.calls t152 t170 _ A37.out).mono ?_); rintro e w55 ⟨rfl, hb⟩; have n0_ := Aside0.mk (below_step (by repeat (first | (with_reducible first | exact HB.out | apply below_alloc | apply pw_below_drewN | apply below_drew1) | exact HB.out)) hb); clear HB; have HB := n0_; clear n0_; (try clear hb); (try clear hb2); (try clear hk); (try clear hi)) | (go_at_call 23; (with_reducible refine (halyardlaw01_alive.calls kj10  t173 _ A52.out).mono ?_); rintro e w56 ⟨rfl, hb⟩; have n0_ := Aside0.mk (below_step (by repeat (first | (with_reducible first | exact HB.out | apply below_alloc | apply pw_below_drewN | apply below_drew1) | exact HB.out)) hb); clear HB; have HB := n0_; clear n0_; (try clear hb); (try clear hb2); (try clear hk); (try clear hi)))
                        go_ret
                        exact ⟨by first | rfl | (simp [errW_none, errW_some] <;> rfl) | (simp [*, errW_none, errW_some] <;> rfl), by repeat (first | (with_reducible first | exact HB.out | apply below_alloc | apply pw_below_drewN | apply below_drew1) | exact HB.out)⟩
                    · rw [if_neg c38] at H
                      have c38b0 : (t170.toList == a2.toList) = false := beq_eq_false_iff_ne.mpr c38
                      have c38b1 : (t170.toList != a2.toList) = true := bne_iff_ne.mpr c38
                      obtain rfl := Option.some.inj H
                      go_wp2_with (first | ((with_reducible refine gate_callee (f := 29) rfl ?_); refine goesL_ (some 81) rfl rfl Try.func29 (by kernel_rfl) rfl #[.int .u16 a0] rfl (by (try simp only [List.map_toArray, List.map_cons, List.map_nil]); first | done | rfl | (simp only [List.length_drop, List.length_take]; rfl)) ?_; (with_reducible refine (octet_Put16.calls a0 t164 _ A28.out).mono ?_); rintro e w57 ⟨rfl, hb⟩; refine ⟨_, rfl, ?_⟩; have n0_ := Aside0.mk (below_step (by repeat (first | (with_reducible first | exact HB.out | apply below_alloc | apply pw_below_drewN | apply below_drew1) | exact HB.out)) hb); clear HB; have HB := n0_; clear n0_; (try clear hb); (try clear hb2); (try clear hk); (try clear hi)) | ((with_reducible refine gate_callee (f := 26) rfl ?_); refine goesL_ (some 82) rfl rfl Try.func26 (by kernel_rfl) rfl #[.string t164] rfl (by (try simp only [List.map_toArray, List.map_cons, List.map_nil]); first | done | rfl | (simp only [List.length_drop, List.length_take]; rfl)) ?_; (with_reducible refine (octet_Get16.calls t164 t165 t166 _ A29.out).mono ?_); rintro e w' ⟨rfl, ⟨nd, rfl⟩⟩; refine ⟨_, rfl, ?_⟩) | ((with_reducible refine gate_callee (f := 31) rfl ?_); refine goesL_ (some 87) rfl rfl Try.func31 (by kernel_rfl) rfl #[.int .u32 a1] rfl (by (try simp only [List.map_toArray, List.map_cons, List.map_nil]); first | done | rfl | (simp only [List.length_drop, List.length_take]; rfl)) ?_; (with_reducible refine (octet_Put32.calls a1 t167 _ A30.out).mono ?_); rintro e w58 ⟨rfl, hb⟩; refine ⟨_, rfl, ?_⟩; have n0_ := Aside0.mk (below_step (by repeat (first | (with_reducible first | exact HB.out | apply below_alloc | apply pw_below_drewN | apply below_drew1) | exact HB.out)) hb); clear HB; have HB := n0_; clear n0_; (try clear hb); (try clear hb2); (try clear hk); (try clear hi)) | ((with_reducible refine gate_callee (f := 28) rfl ?_); refine goesL_ (some 88) rfl rfl Try.func28 (by kernel_rfl) rfl #[.string t167] rfl (by (try simp only [List.map_toArray, List.map_cons, List.map_nil]); first | done | rfl | (simp only [List.length_drop, List.length_take]; rfl)) ?_; (with_reducible refine (octet_Get32.calls t167 t168 t169 _ A31.out).mono ?_); rintro e w' ⟨rfl, ⟨nd, rfl⟩⟩; refine ⟨_, rfl, ?_⟩) | (go_at_call 29; (with_reducible refine (octet_Put16.calls t152 t170 _ A37.out).mono ?_); rintro e w59 ⟨rfl, hb⟩; have n0_ := Aside0.mk (below_step (by repeat (first | (with_reducible first | exact HB.out | apply below_alloc | apply pw_below_drewN | apply below_drew1) | exact HB.out)) hb); clear HB; have HB := n0_; clear n0_; (try clear hb); (try clear hb2); (try clear hk); (try clear hi)))
                      go_ret
                      exact ⟨by first | rfl | (simp [errW_none, errW_some] <;> rfl) | (simp [*, errW_none, errW_some] <;> rfl), by repeat (first | (with_reducible first | exact HB.out | apply below_alloc | apply pw_below_drewN | apply below_drew1) | exact HB.out)⟩
                  · rw [if_neg c36] at H
                    have c36b0 : (t153 == 0) = false := beq_eq_false_iff_ne.mpr c36
                    have c36b1 : (t153 != 0) = true := bne_iff_ne.mpr c36
                    by_cases c60 : t157 = 0
                    · rw [if_pos c60] at H
                      have c60b0 : (t157 == 0) = true := beq_iff_eq.mpr c60
                      have c60b1 : (t157 != 0) = false := bne_eq_false_iff_eq.mpr c60
                      clear c60
                      replace H := Option.bind_eq_some_iff.mp H
                      obtain ⟨t174, A610, H⟩ := H
                      replace H : (if t174.toList = a2.toList then ((halyardlaw01_alive.f kj10).bind fun t175 => (some t175)) else (some false)) = some r := H
                      have A61 := Aside0.mk A610
                      clear A610
                      by_cases c62 : t174.toList = a2.toList
                      · rw [if_pos c62] at H
                        have c62b0 : (t174.toList == a2.toList) = true := beq_iff_eq.mpr c62
                        have c62b1 : (t174.toList != a2.toList) = false := bne_eq_false_iff_eq.mpr c62
                        clear c62
                        replace H := Option.bind_eq_some_iff.mp H
                        obtain ⟨t175, A630, H⟩ := H
                        replace H : (some t175) = some r := H
                        have A63 := Aside0.mk A630
                        clear A630
                        obtain rfl := Option.some.inj H
                        go_wp2_with (first | ((with_reducible refine gate_callee (f := 29) rfl ?_); refine goesL_ (some 81) rfl rfl Try.func29 (by kernel_rfl) rfl #[.int .u16 a0] rfl (by (try simp only [List.map_toArray, List.map_cons, List.map_nil]); first | done | rfl | (simp only [List.length_drop, List.length_take]; rfl)) ?_; (with_reducible refine (octet_Put16.calls a0 t164 _ A28.out).mono ?_); rintro e w64 ⟨rfl, hb⟩; refine ⟨_, rfl, ?_⟩; have n0_ := Aside0.mk (below_step (by repeat (first | (with_reducible first | exact HB.out | apply below_alloc | apply pw_below_drewN | apply below_drew1) | exact HB.out)) hb); clear HB; have HB := n0_; clear n0_; (try clear hb); (try clear hb2); (try clear hk); (try clear hi)) | ((with_reducible refine gate_callee (f := 26) rfl ?_); refine goesL_ (some 82) rfl rfl Try.func26 (by kernel_rfl) rfl #[.string t164] rfl (by (try simp only [List.map_toArray, List.map_cons, List.map_nil]); first | done | rfl | (simp only [List.length_drop, List.length_take]; rfl)) ?_; (with_reducible refine (octet_Get16.calls t164 t165 t166 _ A29.out).mono ?_); rintro e w' ⟨rfl, ⟨nd, rfl⟩⟩; refine ⟨_, rfl, ?_⟩) | ((with_reducible refine gate_callee (f := 31) rfl ?_); refine goesL_ (some 87) rfl rfl Try.func31 (by kernel_rfl) rfl #[.int .u32 a1] rfl (by (try simp only [List.map_toArray, List.map_cons, List.map_nil]); first | done | rfl | (simp only [List.length_drop, List.length_take]; rfl)) ?_; (with_reducible refine (octet_Put32.calls a1 t167 _ A30.out).mono ?_); rintro e w65 ⟨rfl, hb⟩; refine ⟨_, rfl, ?_⟩; have n0_ := Aside0.mk (below_step (by repeat (first | (with_reducible first | exact HB.out | apply below_alloc | apply pw_below_drewN | apply below_drew1) | exact HB.out)) hb); clear HB; have HB := n0_; clear n0_; (try clear hb); (try clear hb2); (try clear hk); (try clear hi)) | ((with_reducible refine gate_callee (f := 28) rfl ?_); refine goesL_ (some 88) rfl rfl Try.func28 (by kernel_rfl) rfl #[.string t167] rfl (by (try simp only [List.map_toArray, List.map_cons, List.map_nil]); first | done | rfl | (simp only [List.length_drop, List.length_take]; rfl)) ?_; (with_reducible refine (octet_Get32.calls t167 t168 t169 _ A31.out).mono ?_); rintro e w' ⟨rfl, ⟨nd, rfl⟩⟩; refine ⟨_, rfl, ?_⟩) | (go_at_call 31; (with_reducible refine (octet_Put32.calls t156 t174 _ A61.out).mono ?_); rintro e w66 ⟨rfl, hb⟩; have n0_ := Aside0.mk (below_step (by repeat (first | (with_reducible first | exact HB.out | apply below_alloc | apply pw_below_drewN | apply below_drew1) | exact HB.out)) hb); clear HB; have HB := n0_; clear n0_; (try clear hb); (try clear hb2); (try clear hk); (try clear hi)) | (go_at_call 23; (with_reducible refine (halyardlaw01_alive.calls kj10  t175 _ A63.out).mono ?_); rintro e w67 ⟨rfl, hb⟩; have n0_ := Aside0.mk (below_step (by repeat (first | (with_reducible first | exact HB.out | apply below_alloc | apply pw_below_drewN | apply below_drew1) | exact HB.out)) hb); clear HB; have HB := n0_; clear n0_; (try clear hb); (try clear hb2); (try clear hk); (try clear hi)))
                        go_ret
                        exact ⟨by first | rfl | (simp [errW_none, errW_some] <;> rfl) | (simp [*, errW_none, errW_some] <;> rfl), by repeat (first | (with_reducible first | exact HB.out | apply below_alloc | apply pw_below_drewN | apply below_drew1) | exact HB.out)⟩
                      · rw [if_neg c62] at H
                        have c62b0 : (t174.toList == a2.toList) = false := beq_eq_false_iff_ne.mpr c62
                        have c62b1 : (t174.toList != a2.toList) = true := bne_iff_ne.mpr c62
                        obtain rfl := Option.some.inj H
                        go_wp2_with (first | ((with_reducible refine gate_callee (f := 29) rfl ?_); refine goesL_ (some 81) rfl rfl Try.func29 (by kernel_rfl) rfl #[.int .u16 a0] rfl (by (try simp only [List.map_toArray, List.map_cons, List.map_nil]); first | done | rfl | (simp only [List.length_drop, List.length_take]; rfl)) ?_; (with_reducible refine (octet_Put16.calls a0 t164 _ A28.out).mono ?_); rintro e w68 ⟨rfl, hb⟩; refine ⟨_, rfl, ?_⟩; have n0_ := Aside0.mk (below_step (by repeat (first | (with_reducible first | exact HB.out | apply below_alloc | apply pw_below_drewN | apply below_drew1) | exact HB.out)) hb); clear HB; have HB := n0_; clear n0_; (try clear hb); (try clear hb2); (try clear hk); (try clear hi)) | ((with_reducible refine gate_callee (f := 26) rfl ?_); refine goesL_ (some 82) rfl rfl Try.func26 (by kernel_rfl) rfl #[.string t164] rfl (by (try simp only [List.map_toArray, List.map_cons, List.map_nil]); first | done | rfl | (simp only [List.length_drop, List.length_take]; rfl)) ?_; (with_reducible refine (octet_Get16.calls t164 t165 t166 _ A29.out).mono ?_); rintro e w' ⟨rfl, ⟨nd, rfl⟩⟩; refine ⟨_, rfl, ?_⟩) | ((with_reducible refine gate_callee (f := 31) rfl ?_); refine goesL_ (some 87) rfl rfl Try.func31 (by kernel_rfl) rfl #[.int .u32 a1] rfl (by (try simp only [List.map_toArray, List.map_cons, List.map_nil]); first | done | rfl | (simp only [List.length_drop, List.length_take]; rfl)) ?_; (with_reducible refine (octet_Put32.calls a1 t167 _ A30.out).mono ?_); rintro e w69 ⟨rfl, hb⟩; refine ⟨_, rfl, ?_⟩; have n0_ := Aside0.mk (below_step (by repeat (first | (with_reducible first | exact HB.out | apply below_alloc | apply pw_below_drewN | apply below_drew1) | exact HB.out)) hb); clear HB; have HB := n0_; clear n0_; (try clear hb); (try clear hb2); (try clear hk); (try clear hi)) | ((with_reducible refine gate_callee (f := 28) rfl ?_); refine goesL_ (some 88) rfl rfl Try.func28 (by kernel_rfl) rfl #[.string t167] rfl (by (try simp only [List.map_toArray, List.map_cons, List.map_nil]); first | done | rfl | (simp only [List.length_drop, List.length_take]; rfl)) ?_; (with_reducible refine (octet_Get32.calls t167 t168 t169 _ A31.out).mono ?_); rintro e w' ⟨rfl, ⟨nd, rfl⟩⟩; refine ⟨_, rfl, ?_⟩) | (go_at_call 31; (with_reducible refine (octet_Put32.calls t156 t174 _ A61.out).mono ?_); rintro e w70 ⟨rfl, hb⟩; have n0_ := Aside0.mk (below_step (by repeat (first | (with_reducible first | exact HB.out | apply below_alloc | apply pw_below_drewN | apply below_drew1) | exact HB.out)) hb); clear HB; have HB := n0_; clear n0_; (try clear hb); (try clear hb2); (try clear hk); (try clear hi)))
                        go_ret
                        exact ⟨by first | rfl | (simp [errW_none, errW_some] <;> rfl) | (simp [*, errW_none, errW_some] <;> rfl), by repeat (first | (with_reducible first | exact HB.out | apply below_alloc | apply pw_below_drewN | apply below_drew1) | exact HB.out)⟩
                    · rw [if_neg c60] at H
                      have c60b0 : (t157 == 0) = false := beq_eq_false_iff_ne.mpr c60
                      have c60b1 : (t157 != 0) = true := bne_iff_ne.mpr c60
                      replace H := Option.bind_eq_some_iff.mp H
                      obtain ⟨t176, A710, H⟩ := H
                      replace H : (some t176) = some r := H
                      have A71 := Aside0.mk A710
                      clear A710
                      obtain rfl := Option.some.inj H
                      go_wp2_with (first | ((with_reducible refine gate_callee (f := 29) rfl ?_); refine goesL_ (some 81) rfl rfl Try.func29 (by kernel_rfl) rfl #[.int .u16 a0] rfl (by (try simp only [List.map_toArray, List.map_cons, List.map_nil]); first | done | rfl | (simp only [List.length_drop, List.length_take]; rfl)) ?_; (with_reducible refine (octet_Put16.calls a0 t164 _ A28.out).mono ?_); rintro e w72 ⟨rfl, hb⟩; refine ⟨_, rfl, ?_⟩; have n0_ := Aside0.mk (below_step (by repeat (first | (with_reducible first | exact HB.out | apply below_alloc | apply pw_below_drewN | apply below_drew1) | exact HB.out)) hb); clear HB; have HB := n0_; clear n0_; (try clear hb); (try clear hb2); (try clear hk); (try clear hi)) | ((with_reducible refine gate_callee (f := 26) rfl ?_); refine goesL_ (some 82) rfl rfl Try.func26 (by kernel_rfl) rfl #[.string t164] rfl (by (try simp only [List.map_toArray, List.map_cons, List.map_nil]); first | done | rfl | (simp only [List.length_drop, List.length_take]; rfl)) ?_; (with_reducible refine (octet_Get16.calls t164 t165 t166 _ A29.out).mono ?_); rintro e w' ⟨rfl, ⟨nd, rfl⟩⟩; refine ⟨_, rfl, ?_⟩) | ((with_reducible refine gate_callee (f := 31) rfl ?_); refine goesL_ (some 87) rfl rfl Try.func31 (by kernel_rfl) rfl #[.int .u32 a1] rfl (by (try simp only [List.map_toArray, List.map_cons, List.map_nil]); first | done | rfl | (simp only [List.length_drop, List.length_take]; rfl)) ?_; (with_reducible refine (octet_Put32.calls a1 t167 _ A30.out).mono ?_); rintro e w73 ⟨rfl, hb⟩; refine ⟨_, rfl, ?_⟩; have n0_ := Aside0.mk (below_step (by repeat (first | (with_reducible first | exact HB.out | apply below_alloc | apply pw_below_drewN | apply below_drew1) | exact HB.out)) hb); clear HB; have HB := n0_; clear n0_; (try clear hb); (try clear hb2); (try clear hk); (try clear hi)) | ((with_reducible refine gate_callee (f := 28) rfl ?_); refine goesL_ (some 88) rfl rfl Try.func28 (by kernel_rfl) rfl #[.string t167] rfl (by (try simp only [List.map_toArray, List.map_cons, List.map_nil]); first | done | rfl | (simp only [List.length_drop, List.length_take]; rfl)) ?_; (with_reducible refine (octet_Get32.calls t167 t168 t169 _ A31.out).mono ?_); rintro e w' ⟨rfl, ⟨nd, rfl⟩⟩; refine ⟨_, rfl, ?_⟩) | (go_at_call 23; (with_reducible refine (halyardlaw01_alive.calls kj10  t176 _ A71.out).mono ?_); rintro e w74 ⟨rfl, hb⟩; have n0_ := Aside0.mk (below_step (by repeat (first | (with_reducible first | exact HB.out | apply below_alloc | apply pw_below_drewN | apply below_drew1) | exact HB.out)) hb); clear HB; have HB := n0_; clear n0_; (try clear hb); (try clear hb2); (try clear hk); (try clear hi)))
                      go_ret
                      exact ⟨by first | rfl | (simp [errW_none, errW_some] <;> rfl) | (simp [*, errW_none, errW_some] <;> rfl), by repeat (first | (with_reducible first | exact HB.out | apply below_alloc | apply pw_below_drewN | apply below_drew1) | exact HB.out)⟩
                · rw [if_neg c35] at H
                  have c35b0 : (t169 == 0) = false := beq_eq_false_iff_ne.mpr c35
                  have c35b1 : (t169 != 0) = true := bne_iff_ne.mpr c35
                  obtain rfl := Option.some.inj H
                  go_wp2_with (first | ((with_reducible refine gate_callee (f := 29) rfl ?_); refine goesL_ (some 81) rfl rfl Try.func29 (by kernel_rfl) rfl #[.int .u16 a0] rfl (by (try simp only [List.map_toArray, List.map_cons, List.map_nil]); first | done | rfl | (simp only [List.length_drop, List.length_take]; rfl)) ?_; (with_reducible refine (octet_Put16.calls a0 t164 _ A28.out).mono ?_); rintro e w75 ⟨rfl, hb⟩; refine ⟨_, rfl, ?_⟩; have n0_ := Aside0.mk (below_step (by repeat (first | (with_reducible first | exact HB.out | apply below_alloc | apply pw_below_drewN | apply below_drew1) | exact HB.out)) hb); clear HB; have HB := n0_; clear n0_; (try clear hb); (try clear hb2); (try clear hk); (try clear hi)) | ((with_reducible refine gate_callee (f := 26) rfl ?_); refine goesL_ (some 82) rfl rfl Try.func26 (by kernel_rfl) rfl #[.string t164] rfl (by (try simp only [List.map_toArray, List.map_cons, List.map_nil]); first | done | rfl | (simp only [List.length_drop, List.length_take]; rfl)) ?_; (with_reducible refine (octet_Get16.calls t164 t165 t166 _ A29.out).mono ?_); rintro e w' ⟨rfl, ⟨nd, rfl⟩⟩; refine ⟨_, rfl, ?_⟩) | ((with_reducible refine gate_callee (f := 31) rfl ?_); refine goesL_ (some 87) rfl rfl Try.func31 (by kernel_rfl) rfl #[.int .u32 a1] rfl (by (try simp only [List.map_toArray, List.map_cons, List.map_nil]); first | done | rfl | (simp only [List.length_drop, List.length_take]; rfl)) ?_; (with_reducible refine (octet_Put32.calls a1 t167 _ A30.out).mono ?_); rintro e w76 ⟨rfl, hb⟩; refine ⟨_, rfl, ?_⟩; have n0_ := Aside0.mk (below_step (by repeat (first | (with_reducible first | exact HB.out | apply below_alloc | apply pw_below_drewN | apply below_drew1) | exact HB.out)) hb); clear HB; have HB := n0_; clear n0_; (try clear hb); (try clear hb2); (try clear hk); (try clear hi)) | ((with_reducible refine gate_callee (f := 28) rfl ?_); refine goesL_ (some 88) rfl rfl Try.func28 (by kernel_rfl) rfl #[.string t167] rfl (by (try simp only [List.map_toArray, List.map_cons, List.map_nil]); first | done | rfl | (simp only [List.length_drop, List.length_take]; rfl)) ?_; (with_reducible refine (octet_Get32.calls t167 t168 t169 _ A31.out).mono ?_); rintro e w' ⟨rfl, ⟨nd, rfl⟩⟩; refine ⟨_, rfl, ?_⟩))
                  go_ret
                  exact ⟨by first | rfl | (simp [errW_none, errW_some] <;> rfl) | (simp [*, errW_none, errW_some] <;> rfl), by repeat (first | (with_reducible first | exact HB.out | apply below_alloc | apply pw_below_drewN | apply below_drew1) | exact HB.out)⟩
              · rw [if_neg c34] at H
                have c34b0 : (t168 == a1) = false := beq_eq_false_iff_ne.mpr c34
                have c34b1 : (t168 != a1) = true := bne_iff_ne.mpr c34
                obtain rfl := Option.some.inj H
                go_wp2_with (first | ((with_reducible refine gate_callee (f := 29) rfl ?_); refine goesL_ (some 81) rfl rfl Try.func29 (by kernel_rfl) rfl #[.int .u16 a0] rfl (by (try simp only [List.map_toArray, List.map_cons, List.map_nil]); first | done | rfl | (simp only [List.length_drop, List.length_take]; rfl)) ?_; (with_reducible refine (octet_Put16.calls a0 t164 _ A28.out).mono ?_); rintro e w77 ⟨rfl, hb⟩; refine ⟨_, rfl, ?_⟩; have n0_ := Aside0.mk (below_step (by repeat (first | (with_reducible first | exact HB.out | apply below_alloc | apply pw_below_drewN | apply below_drew1) | exact HB.out)) hb); clear HB; have HB := n0_; clear n0_; (try clear hb); (try clear hb2); (try clear hk); (try clear hi)) | ((with_reducible refine gate_callee (f := 26) rfl ?_); refine goesL_ (some 82) rfl rfl Try.func26 (by kernel_rfl) rfl #[.string t164] rfl (by (try simp only [List.map_toArray, List.map_cons, List.map_nil]); first | done | rfl | (simp only [List.length_drop, List.length_take]; rfl)) ?_; (with_reducible refine (octet_Get16.calls t164 t165 t166 _ A29.out).mono ?_); rintro e w' ⟨rfl, ⟨nd, rfl⟩⟩; refine ⟨_, rfl, ?_⟩) | ((with_reducible refine gate_callee (f := 31) rfl ?_); refine goesL_ (some 87) rfl rfl Try.func31 (by kernel_rfl) rfl #[.int .u32 a1] rfl (by (try simp only [List.map_toArray, List.map_cons, List.map_nil]); first | done | rfl | (simp only [List.length_drop, List.length_take]; rfl)) ?_; (with_reducible refine (octet_Put32.calls a1 t167 _ A30.out).mono ?_); rintro e w78 ⟨rfl, hb⟩; refine ⟨_, rfl, ?_⟩; have n0_ := Aside0.mk (below_step (by repeat (first | (with_reducible first | exact HB.out | apply below_alloc | apply pw_below_drewN | apply below_drew1) | exact HB.out)) hb); clear HB; have HB := n0_; clear n0_; (try clear hb); (try clear hb2); (try clear hk); (try clear hi)) | ((with_reducible refine gate_callee (f := 28) rfl ?_); refine goesL_ (some 88) rfl rfl Try.func28 (by kernel_rfl) rfl #[.string t167] rfl (by (try simp only [List.map_toArray, List.map_cons, List.map_nil]); first | done | rfl | (simp only [List.length_drop, List.length_take]; rfl)) ?_; (with_reducible refine (octet_Get32.calls t167 t168 t169 _ A31.out).mono ?_); rintro e w' ⟨rfl, ⟨nd, rfl⟩⟩; refine ⟨_, rfl, ?_⟩))
                go_ret
                exact ⟨by first | rfl | (simp [errW_none, errW_some] <;> rfl) | (simp [*, errW_none, errW_some] <;> rfl), by repeat (first | (with_reducible first | exact HB.out | apply below_alloc | apply pw_below_drewN | apply below_drew1) | exact HB.out)⟩
            · rw [if_neg c33] at H
              have c33b0 : (t166 == 0) = false := beq_eq_false_iff_ne.mpr c33
              have c33b1 : (t166 != 0) = true := bne_iff_ne.mpr c33
              obtain rfl := Option.some.inj H
              go_wp2_with (first | ((with_reducible refine gate_callee (f := 29) rfl ?_); refine goesL_ (some 81) rfl rfl Try.func29 (by kernel_rfl) rfl #[.int .u16 a0] rfl (by (try simp only [List.map_toArray, List.map_cons, List.map_nil]); first | done | rfl | (simp only [List.length_drop, List.length_take]; rfl)) ?_; (with_reducible refine (octet_Put16.calls a0 t164 _ A28.out).mono ?_); rintro e w79 ⟨rfl, hb⟩; refine ⟨_, rfl, ?_⟩; have n0_ := Aside0.mk (below_step (by repeat (first | (with_reducible first | exact HB.out | apply below_alloc | apply pw_below_drewN | apply below_drew1) | exact HB.out)) hb); clear HB; have HB := n0_; clear n0_; (try clear hb); (try clear hb2); (try clear hk); (try clear hi)) | ((with_reducible refine gate_callee (f := 26) rfl ?_); refine goesL_ (some 82) rfl rfl Try.func26 (by kernel_rfl) rfl #[.string t164] rfl (by (try simp only [List.map_toArray, List.map_cons, List.map_nil]); first | done | rfl | (simp only [List.length_drop, List.length_take]; rfl)) ?_; (with_reducible refine (octet_Get16.calls t164 t165 t166 _ A29.out).mono ?_); rintro e w' ⟨rfl, ⟨nd, rfl⟩⟩; refine ⟨_, rfl, ?_⟩) | ((with_reducible refine gate_callee (f := 31) rfl ?_); refine goesL_ (some 87) rfl rfl Try.func31 (by kernel_rfl) rfl #[.int .u32 a1] rfl (by (try simp only [List.map_toArray, List.map_cons, List.map_nil]); first | done | rfl | (simp only [List.length_drop, List.length_take]; rfl)) ?_; (with_reducible refine (octet_Put32.calls a1 t167 _ A30.out).mono ?_); rintro e w80 ⟨rfl, hb⟩; refine ⟨_, rfl, ?_⟩; have n0_ := Aside0.mk (below_step (by repeat (first | (with_reducible first | exact HB.out | apply below_alloc | apply pw_below_drewN | apply below_drew1) | exact HB.out)) hb); clear HB; have HB := n0_; clear n0_; (try clear hb); (try clear hb2); (try clear hk); (try clear hi)) | ((with_reducible refine gate_callee (f := 28) rfl ?_); refine goesL_ (some 88) rfl rfl Try.func28 (by kernel_rfl) rfl #[.string t167] rfl (by (try simp only [List.map_toArray, List.map_cons, List.map_nil]); first | done | rfl | (simp only [List.length_drop, List.length_take]; rfl)) ?_; (with_reducible refine (octet_Get32.calls t167 t168 t169 _ A31.out).mono ?_); rintro e w' ⟨rfl, ⟨nd, rfl⟩⟩; refine ⟨_, rfl, ?_⟩))
              go_ret
              exact ⟨by first | rfl | (simp [errW_none, errW_some] <;> rfl) | (simp [*, errW_none, errW_some] <;> rfl), by repeat (first | (with_reducible first | exact HB.out | apply below_alloc | apply pw_below_drewN | apply below_drew1) | exact HB.out)⟩
          · rw [if_neg c32] at H
            have c32b0 : (t165 == a0) = false := beq_eq_false_iff_ne.mpr c32
            have c32b1 : (t165 != a0) = true := bne_iff_ne.mpr c32
            obtain rfl := Option.some.inj H
            go_wp2_with (first | ((with_reducible refine gate_callee (f := 29) rfl ?_); refine goesL_ (some 81) rfl rfl Try.func29 (by kernel_rfl) rfl #[.int .u16 a0] rfl (by (try simp only [List.map_toArray, List.map_cons, List.map_nil]); first | done | rfl | (simp only [List.length_drop, List.length_take]; rfl)) ?_; (with_reducible refine (octet_Put16.calls a0 t164 _ A28.out).mono ?_); rintro e w81 ⟨rfl, hb⟩; refine ⟨_, rfl, ?_⟩; have n0_ := Aside0.mk (below_step (by repeat (first | (with_reducible first | exact HB.out | apply below_alloc | apply pw_below_drewN | apply below_drew1) | exact HB.out)) hb); clear HB; have HB := n0_; clear n0_; (try clear hb); (try clear hb2); (try clear hk); (try clear hi)) | ((with_reducible refine gate_callee (f := 26) rfl ?_); refine goesL_ (some 82) rfl rfl Try.func26 (by kernel_rfl) rfl #[.string t164] rfl (by (try simp only [List.map_toArray, List.map_cons, List.map_nil]); first | done | rfl | (simp only [List.length_drop, List.length_take]; rfl)) ?_; (with_reducible refine (octet_Get16.calls t164 t165 t166 _ A29.out).mono ?_); rintro e w' ⟨rfl, ⟨nd, rfl⟩⟩; refine ⟨_, rfl, ?_⟩) | ((with_reducible refine gate_callee (f := 31) rfl ?_); refine goesL_ (some 87) rfl rfl Try.func31 (by kernel_rfl) rfl #[.int .u32 a1] rfl (by (try simp only [List.map_toArray, List.map_cons, List.map_nil]); first | done | rfl | (simp only [List.length_drop, List.length_take]; rfl)) ?_; (with_reducible refine (octet_Put32.calls a1 t167 _ A30.out).mono ?_); rintro e w82 ⟨rfl, hb⟩; refine ⟨_, rfl, ?_⟩; have n0_ := Aside0.mk (below_step (by repeat (first | (with_reducible first | exact HB.out | apply below_alloc | apply pw_below_drewN | apply below_drew1) | exact HB.out)) hb); clear HB; have HB := n0_; clear n0_; (try clear hb); (try clear hb2); (try clear hk); (try clear hi)) | ((with_reducible refine gate_callee (f := 28) rfl ?_); refine goesL_ (some 88) rfl rfl Try.func28 (by kernel_rfl) rfl #[.string t167] rfl (by (try simp only [List.map_toArray, List.map_cons, List.map_nil]); first | done | rfl | (simp only [List.length_drop, List.length_take]; rfl)) ?_; (with_reducible refine (octet_Get32.calls t167 t168 t169 _ A31.out).mono ?_); rintro e w' ⟨rfl, ⟨nd, rfl⟩⟩; refine ⟨_, rfl, ?_⟩))
            go_ret
            exact ⟨by first | rfl | (simp [errW_none, errW_some] <;> rfl) | (simp [*, errW_none, errW_some] <;> rfl), by repeat (first | (with_reducible first | exact HB.out | apply below_alloc | apply pw_below_drewN | apply below_drew1) | exact HB.out)⟩

/-- THE ONE PURE STATEMENT of halyardlaw01_OctetNumbers: yours. -/
def halyardlaw01_OctetNumbers.Pure : Prop := ∀ (a0 : Int) (a1 : Int) (a2 : ByteArray), (Lit.int .u16 a0).wf = true → (Lit.int .u32 a1).wf = true → a2.size ≤ 140737488351232 → ∃ k, halyardlaw01_OctetNumbers.f k a0 a1 a2 = some true
theorem halyardlaw01_OctetNumbers.walk (P : halyardlaw01_OctetNumbers.Pure) (a0 : Int) (a1 : Int) (a2 : ByteArray) (w : World) (w0 : (Lit.int .u16 a0).wf = true) (w1 : (Lit.int .u32 a1).wf = true) (w2 : a2.size ≤ 140737488351232) :
    Calls Try.prog 8 #[.int .u16 a0, .int .u32 a1, .string a2] w fun e w' => e = .returned (.bool true) ∧ Below w.heap.size w w' := by
  obtain ⟨k, h⟩ := P a0 a1 a2 w0 w1 w2
  refine (halyardlaw01_OctetNumbers.calls k a0 a1 a2 true w h).mono ?_
  rintro e w' ⟨rfl, hd⟩
  exact ⟨rfl, hd⟩

end Go.Proofs.Ytdojpjiiihmdoaa.PG01L
