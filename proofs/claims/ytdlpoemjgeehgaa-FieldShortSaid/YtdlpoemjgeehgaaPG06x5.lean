-- WRITTEN by wip/tools/hprint.py: the kit's print.py run over this translation, with functions proved by hand laid in. Lean checks it.
import Derived.Test.YtdlpoemjgeehgaaPG06x0
import Derived.Test.YtdlpoemjgeehgaaPG06x1
import Derived.Test.YtdlpoemjgeehgaaPG06x2
import Derived.Test.YtdlpoemjgeehgaaPG06x4
namespace Go.Proofs.Ytdlpoemjgeehgaa.PG06
open Go.RowKit Go.Proofs.YtdlpoemjgeehgaaW.PrintWords Go.Proofs.YtdlpoemjgeehgaaW.PrintLast Go.Proofs.YtdlpoemjgeehgaaW.PrintMore Go.Proofs.YtdlpoemjgeehgaaHW
attribute [local go_sem] max2_int min2_int max_two min_two max_three min_three max_four min_four   -- for this text's walks alone
set_option linter.unusedVariables false
set_option linter.unusedSimpArgs false

/-! ### field_Put: function 27 -/
def field_Put.Pick (b : Bool) (a0 : Int) (t short : ByteArray) : ByteArray := if b = true ∧ a0 ≠ 49185 then short else t
set_option maxRecDepth 100000 in
theorem field_Put1.calls (g : Nat) (a0 : Int) (is : Bool) (t short r : ByteArray) (w : World) (hg : w.heap[g]? = some (.cells #[.int .u16 a0] 22 (0, 0))) (hr : r = field_Put.Pick is a0 t short) :
    Calls Try.prog 73 #[.bool is, .string t, .string short, .pointer (some ⟨g, 0, none⟩)] w fun e w' => e = .returned (.string r) ∧ w' = w := by
  unfold field_Put.Pick at hr
  have hc := blk_cell hg 0
  simp only [List.getElem?_toArray, List.getElem?_cons_zero] at hc
  clear hg
  cases is with
  | false =>
    rw [if_neg (by simp)] at hr
    subst hr
    go_enter Try.func73, Try.ntmps73
    go_wp2_with fail
    go_ret
    exact ⟨rfl, rfl⟩
  | true =>
    by_cases h : a0 = 49185
    · subst h
      rw [if_neg (by simp)] at hr
      subst hr
      go_enter Try.func73, Try.ntmps73
      go_wp2_with fail
      go_ret
      exact ⟨rfl, rfl⟩
    · rw [if_pos (by simp [h])] at hr
      subst hr
      have h1 : (a0 != 49185) = true := bne_iff_ne.mpr h
      go_enter Try.func73, Try.ntmps73
      go_wp2_with fail
      go_ret
      exact ⟨rfl, rfl⟩
theorem field_Put.row (W : World) (g : Nat) (x y z : ByteArray) (hb : W.heap[g]? = some (.cells #[.string x, .string y, .string z] 9 (0, 0))) : Kd.C Kd.string W (some ⟨g, 0, none⟩) 3 [x, y, z] := by
  have h0 := blk_cell hb 0
  have h1 := blk_cell hb 1
  have h2 := blk_cell hb 2
  refine ⟨rfl, by simp, fun _ => ⟨_, rfl, fun j p hj => ⟨[.string p], rfl, rfl, fun i u hu => ?_⟩⟩⟩
  match i, hu with
  | 0, hu =>
    obtain rfl : Value.string p = u := by simpa using hu
    match j, hj with
    | 0, hj => obtain rfl : x = p := by simpa using hj
               exact h0
    | 1, hj => obtain rfl : y = p := by simpa using hj
               exact h1
    | 2, hj => obtain rfl : z = p := by simpa using hj
               exact h2
  | i + 1, hu => simp at hu
def field_Put.p1 (a0 : Int) (b : Bool) : ByteArray := field_Put.Pick b a0 ⟨#[255, 3]⟩ ⟨#[]⟩
def field_Put.p2 (a0 : Int) (b : Bool) : ByteArray := field_Put.Pick (b && decide (a0 < 256)) a0 (strOfNums [(a0 / 256) % 256, a0 % 256]) ((strOfNums [(a0 / 256) % 256, a0 % 256]).extract 1 2)
def field_Put.f (a0 : Int) (a1 : ByteArray) (a2_0 a2_1 : Bool) : Option (ByteArray × Int) :=
  (field_May.f a0).bind fun m => if m = true then ((field_join.f [field_Put.p1 a0 a2_0, field_Put.p2 a0 a2_1, a1]).bind fun t => some (t, 0)) else some (⟨#[]⟩, 2)
set_option maxHeartbeats 8000000 in
set_option maxRecDepth 100000 in
theorem field_Put.good (a0 : Int) (a1 : ByteArray) (a2_0 : Bool) (a2_1 : Bool) (r : ByteArray) (w : World) (hm : field_May.f a0 = some true) (hj : field_join.f [field_Put.p1 a0 a2_0, field_Put.p2 a0 a2_1, a1] = some r) :
    Calls Try.prog 27 #[.int .u16 a0, .string a1, .agg #[.bool a2_0, .bool a2_1]] w fun e w' => e = .returned (.tuple #[.string r, .int .i64 0]) ∧ Below w.heap.size w w' := by
  have HM := Aside0.mk hm
  have HJ := Aside0.mk hj
  obtain ⟨T1, h1⟩ : ∃ t, t = field_Put.p1 a0 a2_0 := ⟨_, rfl⟩
  obtain ⟨T2, h2⟩ : ∃ t, t = field_Put.p2 a0 a2_1 := ⟨_, rfl⟩
  rw [← h1, ← h2] at HJ
  unfold field_Put.p1 at h1
  unfold field_Put.p2 at h2
  have H1 := Aside0.mk h1
  have H2 := Aside0.mk h2
  have HB := Aside0.mk (Below.refl w.heap.size w)
  clear hm hj h1 h2
  have tok1 : True := trivial
  have tok2 : True := trivial
  obtain ⟨P, hP⟩ : ∃ p, p = strOfNums [(a0 / 256) % 256, a0 % 256] := ⟨_, rfl⟩
  have hPs : P.size = 2 := by rw [hP]; rfl
  have HP := Aside0.mk (show octet_Put16.f a0 = some P by rw [hP]; rfl)
  rw [← hP] at H2
  clear hP
  cases a2_1 with
  | false =>
    replace H2 := Aside0.mk (show T2 = field_Put.Pick false a0 P (P.extract 1 2) from H2.out)
    go_enter Try.func27, Try.ntmps27
    go_wp2_with (first | (go_at_call 31; (with_reducible refine (field_May.calls _ _ _ HM.out).mono ?_); rintro e w1 ⟨rfl, ⟨nd1, rfl⟩⟩) | (go_at_call 74; go_must (refine (octet_Put16.calls _ P _ HP.out).mono ?_); go_must (rintro e w2 ⟨rfl, hb2⟩; have BP := Aside0.mk (hw_below (blk_drewN (blk_alloc (blk_new w (.cells #[.int .u16 a0] 22)) _) nd1) hb2); have BC := Aside0.mk (hw_below (blk_drewN (hw_at (w := w.alloc (.cells #[.int .u16 a0] 22)) (n := w.heap.size + 1) (by simp) (.cells #[.bool a2_0, .bool false] 38)) nd1) hb2); replace HB := Aside0.mk (below_step (pw_below_drewN (below_alloc (below_alloc HB.out _) _) nd1) hb2); clear hb2; have kp := blk_cell BP.out 0; have kc0 := blk_cell BC.out 0; have kc1 := blk_cell BC.out 1; simp only [List.getElem?_toArray, List.getElem?_cons_zero, List.getElem?_cons_succ] at kp kc0 kc1)))
    go_region_law (first | (go_simp; go_at_call 73; have t_ := tok1; refine (field_Put1.calls w.heap.size a0 _ _ _ T1 _ (blk_drew BP.out) H1.out).mono ?_; rintro e w3 ⟨rfl, rfl⟩; clear tok1) | (go_simp; go_at_call 73; have t_ := tok2; refine (field_Put1.calls w.heap.size a0 _ _ _ T2 _ (blk_drew BP.out) H2.out).mono ?_; rintro e w4 ⟨rfl, rfl⟩; clear tok2) | (go_simp; go_at_call 75; refine (field_join.calls _ _ _ r _ (field_Put.row _ w2.heap.size T1 T2 a1 (blk_drew (blk_new w2 _))) (Nat.le_refl _) HJ.out).mono ?_; rintro e w5 ⟨rfl, hb5⟩; have HB5 := Aside0.mk (below_step (below_drew (below_alloc HB.out _)) hb5)))
    all_goals
      go_wp2
      go_ret2
      exact ⟨rfl, HB5.out⟩
  | true =>
    by_cases hlt : a0 < 256
    · replace H2 := Aside0.mk (show T2 = field_Put.Pick true a0 P (P.extract 1 2) by rw [H2.out, show (true && decide (a0 < 256)) = true by simp [hlt]])
      go_enter Try.func27, Try.ntmps27
      go_wp2_with (first | (go_at_call 31; (with_reducible refine (field_May.calls _ _ _ HM.out).mono ?_); rintro e w1 ⟨rfl, ⟨nd1, rfl⟩⟩) | (go_at_call 74; go_must (refine (octet_Put16.calls _ P _ HP.out).mono ?_); go_must (rintro e w2 ⟨rfl, hb2⟩; have BP := Aside0.mk (hw_below (blk_drewN (blk_alloc (blk_new w (.cells #[.int .u16 a0] 22)) _) nd1) hb2); have BC := Aside0.mk (hw_below (blk_drewN (hw_at (w := w.alloc (.cells #[.int .u16 a0] 22)) (n := w.heap.size + 1) (by simp) (.cells #[.bool a2_0, .bool true] 38)) nd1) hb2); replace HB := Aside0.mk (below_step (pw_below_drewN (below_alloc (below_alloc HB.out _) _) nd1) hb2); clear hb2; have kp := blk_cell BP.out 0; have kc0 := blk_cell BC.out 0; have kc1 := blk_cell BC.out 1; simp only [List.getElem?_toArray, List.getElem?_cons_zero, List.getElem?_cons_succ] at kp kc0 kc1)))
      go_region_law (first | (go_simp; go_at_call 73; have t_ := tok1; refine (field_Put1.calls w.heap.size a0 _ _ _ T1 _ (blk_drew BP.out) H1.out).mono ?_; rintro e w3 ⟨rfl, rfl⟩; clear tok1) | (go_simp; go_at_call 73; have t_ := tok2; refine (field_Put1.calls w.heap.size a0 _ _ _ T2 _ (blk_drew BP.out) H2.out).mono ?_; rintro e w4 ⟨rfl, rfl⟩; clear tok2) | (go_simp; go_at_call 75; refine (field_join.calls _ _ _ r _ (field_Put.row _ w2.heap.size T1 T2 a1 (blk_drew (blk_new w2 _))) (Nat.le_refl _) HJ.out).mono ?_; rintro e w5 ⟨rfl, hb5⟩; have HB5 := Aside0.mk (below_step (below_drew (below_alloc HB.out _)) hb5)))
      all_goals
        go_wp2
        go_ret2
        exact ⟨rfl, HB5.out⟩
    · have d1 : decide (a0 < 256) = false := decide_eq_false hlt
      have d2 : 256 ≤ a0 := by omega
      replace H2 := Aside0.mk (show T2 = field_Put.Pick false a0 P (P.extract 1 2) by rw [H2.out, show (true && decide (a0 < 256)) = false by simp [hlt]])
      go_enter Try.func27, Try.ntmps27
      go_wp2_with (first | (go_at_call 31; (with_reducible refine (field_May.calls _ _ _ HM.out).mono ?_); rintro e w1 ⟨rfl, ⟨nd1, rfl⟩⟩) | (go_at_call 74; go_must (refine (octet_Put16.calls _ P _ HP.out).mono ?_); go_must (rintro e w2 ⟨rfl, hb2⟩; have BP := Aside0.mk (hw_below (blk_drewN (blk_alloc (blk_new w (.cells #[.int .u16 a0] 22)) _) nd1) hb2); have BC := Aside0.mk (hw_below (blk_drewN (hw_at (w := w.alloc (.cells #[.int .u16 a0] 22)) (n := w.heap.size + 1) (by simp) (.cells #[.bool a2_0, .bool true] 38)) nd1) hb2); replace HB := Aside0.mk (below_step (pw_below_drewN (below_alloc (below_alloc HB.out _) _) nd1) hb2); clear hb2; have kp := blk_cell BP.out 0; have kc0 := blk_cell BC.out 0; have kc1 := blk_cell BC.out 1; simp only [List.getElem?_toArray, List.getElem?_cons_zero, List.getElem?_cons_succ] at kp kc0 kc1)))
      go_region_law (first | (go_simp; go_at_call 73; have t_ := tok1; refine (field_Put1.calls w.heap.size a0 _ _ _ T1 _ (blk_drew BP.out) H1.out).mono ?_; rintro e w3 ⟨rfl, rfl⟩; clear tok1) | (go_simp; go_at_call 73; have t_ := tok2; refine (field_Put1.calls w.heap.size a0 _ _ _ T2 _ (blk_drew BP.out) H2.out).mono ?_; rintro e w4 ⟨rfl, rfl⟩; clear tok2) | (go_simp; go_at_call 75; refine (field_join.calls _ _ _ r _ (field_Put.row _ w2.heap.size T1 T2 a1 (blk_drew (blk_new w2 _))) (Nat.le_refl _) HJ.out).mono ?_; rintro e w5 ⟨rfl, hb5⟩; have HB5 := Aside0.mk (below_step (below_drew (below_alloc HB.out _)) hb5)))
      all_goals
        go_wp2
        go_ret2
        exact ⟨rfl, HB5.out⟩
set_option maxRecDepth 100000 in
theorem field_Put.calls (a0 : Int) (a1 : ByteArray) (a2_0 : Bool) (a2_1 : Bool) (r1 : ByteArray) (r2 : Int) (w : World) (h : field_Put.f a0 a1 a2_0 a2_1 = some (r1, r2)) :
    Calls Try.prog 27 #[.int .u16 a0, .string a1, .agg #[.bool a2_0, .bool a2_1]] w fun e w' => e = .returned (.tuple #[.string r1, .int .i64 r2]) ∧ Below w.heap.size w w' := by
  unfold field_Put.f at h
  replace h := Option.bind_eq_some_iff.mp h
  obtain ⟨m, hm, h⟩ := h
  cases m with
  | true =>
    rw [if_pos rfl] at h
    replace h := Option.bind_eq_some_iff.mp h
    obtain ⟨t, ht, h⟩ := h
    simp only [Option.some.injEq, Prod.mk.injEq] at h
    obtain ⟨rfl, rfl⟩ := h
    exact field_Put.good a0 a1 a2_0 a2_1 t w hm ht
  | false =>
    rw [if_neg (by simp)] at h
    simp only [Option.some.injEq, Prod.mk.injEq] at h
    obtain ⟨rfl, rfl⟩ := h
    have HM := Aside0.mk hm
    have HB := Aside0.mk (Below.refl w.heap.size w)
    clear hm
    go_enter Try.func27, Try.ntmps27
    go_wp2_with (go_at_call 31; (with_reducible refine (field_May.calls _ _ _ HM.out).mono ?_); rintro e w1 ⟨rfl, ⟨nd1, rfl⟩⟩)
    go_ret2
    exact ⟨rfl, by repeat (first | (with_reducible first | exact HB.out | apply below_alloc | apply pw_below_drewN))⟩


end Go.Proofs.Ytdlpoemjgeehgaa.PG06
