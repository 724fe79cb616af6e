/- The document's answer to the pool: two rows are one. -/
import Derived.Test.YtjpnebhhpogebaaHPool8
namespace Go.Proofs.YtjpnebhhpogebaaHPool
open Go.RowKit Go.Proofs.YtjpnebhhpogebaaW.PrintWords Go.Proofs.YtjpnebhhpogebaaHW Go.Proofs.YtjpnebhhpogebaaHG
set_option linter.unusedVariables false
set_option linter.unusedSimpArgs false
theorem own_drewN {w : World} {B e size n : Nat} {v : Value} {xs : List Value} (h : w.ownsRow B e size v n xs) (k : Nat) : (w.drewN k).ownsRow B e size v n xs := h
set_option maxRecDepth 100000 in
set_option maxHeartbeats 1000000 in
theorem Same_ (B1 B2 : Nat) (v1 v2 : Value) (ls : List (Int × ByteArray)) (w : World) (h1 : w.ownsRow B1 62 2 v1 ls.length (leaseCells ls)) (h2 : w.ownsRow B2 62 2 v2 ls.length (leaseCells ls)) (hl : ls.length ≤ 100000) :
    Calls Try.prog 23 #[v1, v2] w fun e w' => e = .returned (.bool true) ∧ Below w.heap.size w w' := by
  obtain ⟨ad1, cap1, rfl⟩ := own_slice h1
  obtain ⟨ad2, cap2, rfl⟩ := own_slice h2
  have H1 := Aside0.mk h1
  have H2 := Aside0.mk h2
  have HB := Aside0.mk (Below.refl w.heap.size w)
  have huL := Try.underlying62
  clear h1 h2
  go_enter Try.func23, Try.ntmps23
  go_wp2_with fail
  go_loopw [5] (fun v5 wr => ∃ i : Nat, i ≤ ls.length ∧ v5 = .int .i64 (i : Int) ∧ ∃ k : Nat, wr = w.drewN k) (fun v5 _ => ls.length - (intOf v5).toNat)
  case atStart => exact ⟨0, by omega, rfl, 0, rfl⟩
  case round =>
    obtain ⟨i, hi, rfl, k, rfl⟩ := hrel
    by_cases hlt : i < ls.length
    · have hlt' : (i : Int) < (ls.length : Int) := by omega
      obtain ⟨p, hp⟩ : ∃ p, ls[i]? = some p := ⟨_, List.getElem?_eq_getElem hlt⟩
      obtain ⟨c1, c2⟩ := leaseCells_at ls i p hp
      obtain ⟨g1, q1, hv1, _, _⟩ := World.ownsRow.form H1.out (by omega)
      obtain ⟨g2, q2, hv2, _, _⟩ := World.ownsRow.form H2.out (by omega)
      injection hv1 with e1 _ f1
      injection hv2 with e2 _ f2
      subst e1 e2 f1 f2
      have d1 := World.ownsRow.cellAt H1.out (i * 2) (by omega)
      have d2 := World.ownsRow.cellAt H1.out (i * 2 + 1) (by omega)
      have d3 := World.ownsRow.cellAt H2.out (i * 2) (by omega)
      have d4 := World.ownsRow.cellAt H2.out (i * 2 + 1) (by omega)
      rw [c1] at d1 d3
      rw [c2] at d2 d4
      clear c1 c2 hp
      go_wp2_with fail
      go_quiet (fail)
      go_wp2_with fail
      go_roundw
      case rel => exact ⟨i + 1, by omega, by go_num, _, rfl⟩
      case measure => simp [intOf]; omega
    · have hge : ¬ (i : Int) < (ls.length : Int) := by omega
      go_wp2_with fail
      go_ret
      exact ⟨rfl, pw_below_drewN HB.out _⟩
end Go.Proofs.YtjpnebhhpogebaaHPool
