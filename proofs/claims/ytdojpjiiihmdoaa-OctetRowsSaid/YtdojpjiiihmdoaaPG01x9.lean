-- WRITTEN by wip/tools/hprint.py: the kit's print.py run over this translation, with functions proved by hand laid in. Lean checks it.
import Derived.Test.YtdojpjiiihmdoaaPG01x0
import Derived.Test.YtdojpjiiihmdoaaPG01x4
namespace Go.Proofs.Ytdojpjiiihmdoaa.PG01
open Go.RowKit Go.Proofs.YtdojpjiiihmdoaaW.PrintWords Go.Proofs.YtdojpjiiihmdoaaW.PrintLast Go.Proofs.YtdojpjiiihmdoaaW.PrintMore Go.Proofs.YtdojpjiiihmdoaaHW
attribute [local go_sem] max2_int min2_int max_two min_two max_three min_three max_four min_four   -- for this text's walks alone
set_option linter.unusedVariables false
set_option linter.unusedSimpArgs false

/-! ### halyardlaw01_Long: function 50 -/
def halyardlaw01_Long.l0 : Nat → List ByteArray → Int → Int → Option (Bool)
  | 0, _, _, _ => none
  | k + 1, x0, x3, x4 => if x4 < (x0.length : Int) then (if x4 < 400 then (if 0 ≤ x4 then (halyardlaw01_Long.l0 k x0 (wrap64 (x3 + ((rdOf ByteArray.empty x0 x4).size : Int))) (wrap64 (x4 + 1))) else (none)) else (if (x0.length : Int) > 300 then (some true) else (some (decide (x3 > 32768))))) else (if (x0.length : Int) > 300 then (some true) else (some (decide (x3 > 32768))))
def halyardlaw01_Long.f (k : Nat) (l0 : List ByteArray) : Option (Bool) := halyardlaw01_Long.l0 k l0 0 0
theorem halyardlaw01_Long.mono_l : ∀ k, (∀ y0 y1 y2, LeO (halyardlaw01_Long.l0 k y0 y1 y2) (halyardlaw01_Long.l0 (k + 1) y0 y1 y2))
  | 0 => fun _ _ _ r h => by simp [halyardlaw01_Long.l0] at h
  | k + 1 => by
    have ih0 := halyardlaw01_Long.mono_l k
    · intro y0 y1 y2
      unfold halyardlaw01_Long.l0
      repeat' first
      | (with_reducible exact ih0 _ _ _)
      | (with_reducible exact LeO.refl _)
      | (with_reducible exact LeO.none _)
      | (with_reducible refine LeO.ite ?_ ?_)
      | (with_reducible refine LeO.bind ?_ (fun _ => ?_))
      | exact ih0 _ _ _
      | exact LeO.none _
      | refine LeO.ite ?_ ?_
      | refine LeO.bind ?_ (fun _ => ?_)
theorem halyardlaw01_Long.mono : ∀ a0 k, LeO (halyardlaw01_Long.f k a0) (halyardlaw01_Long.f (k + 1) a0) := by
  intro a0 k
  have ih0 := halyardlaw01_Long.mono_l k
  unfold halyardlaw01_Long.f
  repeat' first
      | (with_reducible exact ih0 _ _ _)
      | (with_reducible exact LeO.refl _)
      | (with_reducible exact LeO.none _)
      | (with_reducible refine LeO.ite ?_ ?_)
      | (with_reducible refine LeO.bind ?_ (fun _ => ?_))
      | exact ih0 _ _ _
      | exact LeO.none _
      | refine LeO.ite ?_ ?_
      | refine LeO.bind ?_ (fun _ => ?_)
set_option maxHeartbeats 8000000 in
set_option maxRecDepth 100000 in
theorem halyardlaw01_Long.calls (k : Nat) (A0 : Option Addr) (c0 : Nat) (l0 : List ByteArray) (r : Bool) (w : World) (hr0 : Kd.C Kd.string w A0 l0.length l0) (hc0 : l0.length ≤ c0) (h : halyardlaw01_Long.f k l0 = some r) :
    Calls Try.prog 50 #[.slice A0 l0.length c0] w fun e w' => e = .returned (.bool r) ∧ Drawn0 w w' := by
  have HR0 := Aside0.mk hr0
  have HC0 := Aside0.mk hc0
  clear hr0 hc0
  have H : (halyardlaw01_Long.l0 k l0 0 0) = some r := h
  clear h
  have H' := Aside0.mk H
  clear H
  go_enter Try.func50, Try.ntmps50
  go_wp2
  go_loopg [3, 4] k (fun kq v3 v4 w' => ∃ (x3_1 : Int) (x4_1 : Int), v3 = .int .i64 x3_1 ∧ v4 = .int .i64 x4_1 ∧ Aside0 (halyardlaw01_Long.l0 kq l0 x3_1 x4_1 = some r) ∧ Aside0 (kq ≤ k) ∧ Drawn0 w w')
  case atStart => exact ⟨(0), (0), (by first | rfl | (simp; done) | (simp [*]; done)), (by first | rfl | (simp; done) | (simp [*]; done)), H', ⟨Nat.le_refl _⟩, by repeat (first | exact Drawn0.refl _ | apply Drawn0.step)⟩
  case round =>
    clear H'
    obtain ⟨x3_1, x4_1, rfl, rfl, HA, HK1, ⟨m1, rfl⟩⟩ := hrel
    cases gk with
    | zero => exact absurd HA.out (by simp [halyardlaw01_Long.l0])
    | succ k1 =>
      have H := HA.out
      clear HA
      simp only [halyardlaw01_Long.l0] at H
      by_cases c2 : x4_1 < (l0.length : Int)
      · rw [if_pos c2] at H
        have c2b0 : decide (x4_1 < (l0.length : Int)) = true := decide_eq_true c2
        clear c2
        by_cases c3 : x4_1 < 400
        · rw [if_pos c3] at H
          have c3b0 : decide (x4_1 < 400) = true := decide_eq_true c3
          clear c3
          by_cases c4 : 0 ≤ x4_1
          · rw [if_pos c4] at H
            have c4b0 : decide (0 ≤ x4_1) = true := decide_eq_true c4
            clear c4
            have H' := Aside0.mk H
            clear H
            have p142 : 0 ≤ (x4_1 : Int) := of_decide_eq_true (by first | (with_reducible assumption) | assumption)
            have q142 : x4_1 < (l0.length : Int) := of_decide_eq_true (by first | (with_reducible assumption) | assumption)
            obtain ⟨ad142, e142, hx142_0⟩ := Kd.at_string HR0.out x4_1 p142 q142
            cases e142
            replace p142 := eq_true p142
            replace q142 := eq_true q142
            go_wp2
            go_roundg k1
            case measure => have := HK1.out; omega
            case rel => exact ⟨(wrap64 (x3_1 + ((rdOf ByteArray.empty l0 x4_1).size : Int))), (wrap64 (x4_1 + 1)), (by first | rfl | (simp; done) | (simp [*]; done)), (by first | rfl | (simp; done) | (simp [*]; done)), H', ⟨by have := HK1.out; omega⟩, by repeat (first | exact Drawn0.refl _ | apply Drawn0.step)⟩
          · rw [if_neg c4] at H
            exact absurd H (by simp)
        · rw [if_neg c3] at H
          have c3b0 : decide (x4_1 < 400) = false := decide_eq_false c3
          clear c3
          by_cases c5 : (l0.length : Int) > 300
          · rw [if_pos c5] at H
            have c5b0 : decide (300 < (l0.length : Int)) = true := decide_eq_true c5
            have c5b1 : decide (300 < l0.length) = true := decide_eq_true (by omega)
            clear c5
            obtain rfl := Option.some.inj H
            go_wp2
            go_ret
            exact ⟨by first | rfl | (simp; done) | (simp [*]; done), by repeat (first | exact Drawn0.refl _ | apply Drawn0.step)⟩
          · rw [if_neg c5] at H
            have c5b0 : decide (300 < (l0.length : Int)) = false := decide_eq_false c5
            have c5b1 : decide (300 < l0.length) = false := decide_eq_false (by omega)
            clear c5
            obtain rfl := Option.some.inj H
            go_wp2
            go_ret
            exact ⟨by first | rfl | (simp; done) | (simp [*]; done), by repeat (first | exact Drawn0.refl _ | apply Drawn0.step)⟩
      · rw [if_neg c2] at H
        have c2b0 : decide (x4_1 < (l0.length : Int)) = false := decide_eq_false c2
        clear c2
        by_cases c6 : (l0.length : Int) > 300
        · rw [if_pos c6] at H
          have c6b0 : decide (300 < (l0.length : Int)) = true := decide_eq_true c6
          have c6b1 : decide (300 < l0.length) = true := decide_eq_true (by omega)
          clear c6
          obtain rfl := Option.some.inj H
          go_wp2
          go_ret
          exact ⟨by first | rfl | (simp; done) | (simp [*]; done), by repeat (first | exact Drawn0.refl _ | apply Drawn0.step)⟩
        · rw [if_neg c6] at H
          have c6b0 : decide (300 < (l0.length : Int)) = false := decide_eq_false c6
          have c6b1 : decide (300 < l0.length) = false := decide_eq_false (by omega)
          clear c6
          obtain rfl := Option.some.inj H
          go_wp2
          go_ret
          exact ⟨by first | rfl | (simp; done) | (simp [*]; done), by repeat (first | exact Drawn0.refl _ | apply Drawn0.step)⟩

-- NOT PRINTED: function 71 (abi_NoEscape)

-- NOT PRINTED: function 70 (strings_Builder_copyCheck)

-- NOT PRINTED: function 67 (strings_Builder_WriteString)

-- NOT PRINTED: function 68 (strings_Builder_String)

/-! ### octet_Join8: function 51 -/
def octet_Join8.acc : ByteArray → List ByteArray → Option (ByteArray × Int)
  | a, [] => some (a, 0)
  | a, s :: r => (octet_Text8.f s).bind fun x => if x.2 = 0 then (if a.size + x.1.size ≤ 140737488355328 then octet_Join8.acc (a ++ x.1) r else none) else some (⟨#[]⟩, x.2)
def octet_Join8.f (l0 : List ByteArray) : Option (ByteArray × Int) := octet_Join8.acc ⟨#[]⟩ l0
set_option maxRecDepth 100000 in
set_option maxHeartbeats 1000000 in
theorem octet_Join8.calls (A0 : Option Addr) (c0 : Nat) (l0 : List ByteArray) (r1 : ByteArray) (r2 : Int) (w : World) (hr0 : Kd.C Kd.string w A0 l0.length l0) (hc0 : l0.length ≤ c0) (h : octet_Join8.f l0 = some (r1, r2)) :
    Calls Try.prog 51 #[.slice A0 l0.length c0] w fun e w' => e = .returned (.tuple #[.string r1, .int .i64 r2]) ∧ Below w.heap.size w w' := by
  have H := Aside0.mk (show octet_Join8.acc ⟨#[]⟩ (l0.drop 0) = some (r1, r2) from h)
  have huB := Try.underlying109
  have hmax : (l0.length : Int) ≤ 9223372036854775807 := by have := hr0.2.1; omega
  have HR := Aside0.mk hr0
  clear h hr0 hc0
  go_enter Try.func51, Try.ntmps51
  go_wp2_with fail
  go_loopg [11] (l0.length + 1) (fun kq v11 w' => ∃ (k : Nat) (a : ByteArray), v11 = .int .i64 (k : Int) ∧ Aside0 (kq + k = l0.length + 1) ∧ Aside0 (octet_Join8.acc a (l0.drop k) = some (r1, r2)) ∧ Aside0 (Lib.IsBuilder 109 5 w.heap.size w.heap.size (Lib.byteCells a.data.toList) w') ∧ Aside0 (Below w.heap.size w w'))
  case atStart =>
    refine ⟨0, ⟨#[]⟩, rfl, ⟨rfl⟩, H, ⟨.inl ⟨Nat.le_refl _, .slice none 0 0, blk_new w _, own_nil _ _ _ _, by simp [Value.ownBlock]⟩⟩, ⟨below_alloc (Below.refl _ _) _⟩⟩
  case round =>
    clear H
    obtain ⟨k, a, rfl, HK, HA, HI, HB⟩ := hrel
    by_cases hlt : k < l0.length
    · obtain ⟨s, hs⟩ : ∃ s, l0[k]? = some s := ⟨_, List.getElem?_eq_getElem hlt⟩
      obtain ⟨ad, hA, hcell⟩ := (Kd.C_below HR.out HB.out).2.2 (by omega)
      obtain ⟨c, hc1, hc2, hc3⟩ := hcell k s hs
      have hc4 := hc3 0 (.string s) (by rw [show c = [.string s] from hc2]; rfl)
      simp only [Kd.string, Kd.scalar, Nat.mul_one, Nat.add_zero] at hc4
      have hd : l0.drop k = s :: l0.drop (k + 1) := by
        rw [List.drop_eq_getElem_cons hlt]; congr 1; rw [List.getElem?_eq_getElem hlt] at hs; exact Option.some.inj hs
      have H := HA.out
      rw [hd] at H
      simp only [octet_Join8.acc] at H
      replace H := Option.bind_eq_some_iff.mp H
      obtain ⟨⟨t, e⟩, ht, H⟩ := H
      simp only at H
      have HT := Aside0.mk ht
      clear ht hc1 hc2 hc3 hcell hs hd HA
      subst hA
      by_cases he : e = 0
      · subst he
        rw [if_pos rfl] at H
        by_cases hz : a.size + t.size ≤ 140737488355328
        · rw [if_pos hz] at H
          replace H := Aside0.mk H
          go_wp2_with (first | (go_at_call 57; (with_reducible refine (octet_Text8.calls _ _ _ _ HT.out).mono ?_); rintro e w1 ⟨rfl, hb1⟩; have HI1 := Aside0.mk (Go.Proofs.YtdojpjiiihmdoaaHB.isb_below HI.out hb1); have HB1 := Aside0.mk (below_step HB.out hb1); clear hb1) | (go_at_call 67; go_must (refine (Go.Proofs.YtdojpjiiihmdoaaHB.WriteString _ _ _ t _ HI1.out (by rw [Lib.byteCells_length, ← Lib.size_eq]; omega) HB1.out.size).mono ?_); rintro e w2 ⟨rfl, hi2, hb2⟩; have HI2 := Aside0.mk hi2; have HB2 := Aside0.mk (HB1.out.trans hb2); clear hi2 hb2))
          go_roundg (l0.length - k)
          case measure => have := HK.out; omega
          case rel =>
            refine ⟨k + 1, a ++ t, by go_num, ⟨by have := HK.out; omega⟩, H, ⟨.inr ?_⟩, HB2⟩
            have e : Lib.byteCells (a ++ t).data.toList = Lib.byteCells a.data.toList ++ Lib.strCells t := by
              rw [ByteArray.data_append, Array.toList_append]; simp [Lib.byteCells, Lib.strCells]
            rw [e]
            exact HI2.out
        · rw [if_neg hz] at H
          exact absurd H (by simp)
      · rw [if_neg he] at H
        simp only [Option.some.injEq, Prod.mk.injEq] at H
        obtain ⟨rfl, rfl⟩ := H
        have heb : (e != 0) = true := by simpa using he
        go_wp2_with (go_at_call 57; (with_reducible refine (octet_Text8.calls _ _ _ _ HT.out).mono ?_); rintro e w1 ⟨rfl, hb1⟩; have HB1 := Aside0.mk (below_step HB.out hb1); clear hb1)
        go_ret2
        exact ⟨rfl, HB1.out⟩
    · have H := HA.out
      rw [List.drop_eq_nil_of_le (by omega)] at H
      simp only [octet_Join8.acc, Option.some.injEq, Prod.mk.injEq] at H
      obtain ⟨rfl, rfl⟩ := H
      go_wp2_with (go_at_call 68; go_must (refine (Go.Proofs.YtdojpjiiihmdoaaHB.String_ _ _ a.data.toList _ HI.out HB.out.size).mono ?_); rintro e w1 ⟨rfl, hb1⟩; have HB1 := Aside0.mk (HB.out.trans hb1); clear hb1)
      go_ret2
      exact ⟨by simp, HB1.out⟩


end Go.Proofs.Ytdojpjiiihmdoaa.PG01
