/- The document's answer to the pool: the least one, the owner. -/
import Derived.Test.YtjpnebhhpogebaaHPool8
namespace Go.Proofs.YtjpnebhhpogebaaHPool
open Go.RowKit Go.Proofs.YtjpnebhhpogebaaW.PrintWords Go.Proofs.YtjpnebhhpogebaaHW Go.Proofs.YtjpnebhhpogebaaHG
set_option linter.unusedVariables false
set_option linter.unusedSimpArgs false
theorem LeastIs.uniq {base n : Int} {M : Int → Option ByteArray} {a a' : Int} {is is' : Bool} (h : LeastIs base n M a is) (h' : LeastIs base n M a' is') : a = a' ∧ is = is' := by
  rcases h with ⟨rfl, k, hk, ha, hM, hj⟩ | ⟨rfl, ha, hj⟩ <;> rcases h' with ⟨rfl, k', hk', ha', hM', hj'⟩ | ⟨rfl, ha', hj'⟩
  · refine ⟨?_, rfl⟩
    rcases Nat.lt_trichotomy k k' with hlt | heq | hlt
    · have := hj' k hlt; rw [← ha, hM] at this; exact absurd this (by simp)
    · omega
    · have := hj k' hlt; rw [← ha', hM'] at this; exact absurd this (by simp)
  · have := hj' k hk; rw [← ha, hM] at this; exact absurd this (by simp)
  · have := hj k' hk'; rw [← ha', hM'] at this; exact absurd this (by simp)
  · exact ⟨by omega, rfl⟩
set_option maxRecDepth 100000 in
set_option maxHeartbeats 1000000 in
theorem RefOwner (B g : Nat) (base n a : Int) (M : Int → Option ByteArray) (c : Nat) (w : World) (h : RefAt B w g base n (leases base M n.toNat)) (hv : Valid base n M c) :
    Calls Try.prog 21 #[.pointer (some ⟨g, 0, none⟩), .int .u32 a] w fun e w' => e = .returned (.tuple #[.string ((M a).getD ⟨#[]⟩), .bool (M a).isSome]) ∧ Below w.heap.size w w' := by
  have hl := leases_le hv
  have HA := Aside0.mk (RefAtOf B g base n a _ w h (by omega))
  have HB := Aside0.mk (Below.refl w.heap.size w)
  obtain ⟨v, h1, h2, h3⟩ := h
  obtain ⟨ad, cap, rfl⟩ := own_slice h2
  have k2 := blk_cell h1 2
  simp only [List.getElem?_toArray, List.getElem?_cons_zero, List.getElem?_cons_succ] at k2
  have H2 := Aside0.mk h2
  clear h1 h2 h3
  rcases atIx_look hv a with ⟨hM, hi⟩ | ⟨s, j, hM, hi, hj⟩
  · rw [hi] at HA
    rw [hM]
    clear hM hi hv
    go_enter Try.func21, Try.ntmps21
    go_wp2_with (go_at_call 27; refine HA.out.mono ?_; rintro e w1 ⟨rfl, rfl⟩)
    first | go_ret | go_ret2
    exact ⟨rfl, HB.out⟩
  · rw [hi] at HA
    rw [hM]
    obtain ⟨hjl, _⟩ := List.getElem?_eq_some_iff.1 hj
    have hj0 : ¬ (j : Int) < 0 := by omega
    have hjl' : (j : Int) < ((leases base M n.toNat).length : Int) := by omega
    obtain ⟨gl, cap', hv', _, _⟩ := World.ownsRow.form H2.out (by omega)
    injection hv' with hv1 hv2 hv3
    subst hv1
    have d1 := World.ownsRow.cellAt H2.out (j * 2 + 1) (by omega)
    rw [(leaseCells_at _ j _ hj).2] at d1
    clear hv2 hv3 hj hM hi hv
    go_enter Try.func21, Try.ntmps21
    go_wp2_with (go_at_call 27; refine HA.out.mono ?_; rintro e w1 ⟨rfl, rfl⟩)
    first | go_ret | go_ret2
    exact ⟨rfl, HB.out⟩
set_option maxRecDepth 100000 in
set_option maxHeartbeats 1000000 in
theorem RefLeast (B g : Nat) (base n : Int) (M : Int → Option ByteArray) (c : Nat) (w : World) (h : RefAt B w g base n (leases base M n.toNat)) (hv : Valid base n M c) :
    Calls Try.prog 20 #[.pointer (some ⟨g, 0, none⟩)] w (LeastRet base n M w) := by
  have hl := leases_le hv
  have n1 := hv.n1
  have n2 := hv.n2
  have b1 := hv.b1
  have b2 := hv.b2
  have HV := Aside0.mk hv
  have HR := Aside0.mk h
  obtain ⟨v, h1, h2, h3⟩ := h
  have k0 := blk_cell h1 0
  have k1 := blk_cell h1 1
  simp only [List.getElem?_toArray, List.getElem?_cons_zero, List.getElem?_cons_succ] at k0 k1
  clear h1 h2 h3 hv
  go_enter Try.func20, Try.ntmps20
  go_wp2_with fail
  go_loop [4] (fun v4 => ∃ k : Nat, (k : Int) ≤ n ∧ v4 = .int .i64 (k : Int) ∧ Aside0 (∀ j : Nat, j < k → (M (base + j)).isSome = true)) (fun v4 => (n - intOf v4).toNat)
  case atStart => exact ⟨0, by omega, rfl, ⟨fun j hj => by omega⟩⟩
  case round =>
    obtain ⟨k, hk, rfl, HL⟩ := hrel
    by_cases hlt : (k : Int) < n
    · have s1 : IntKind.u32.wrap (k : Int) = k := by rw [IntKind.wrap_u32]; omega
      have s2 : IntKind.u32.wrap (base + (k : Int)) = base + k := by rw [IntKind.wrap_u32]; omega
      have HA := Aside0.mk (RefAtOf B g base n (base + (k : Int)) _ w HR.out (by omega))
      rcases atIx_look HV.out (base + (k : Int)) with ⟨hM, hi⟩ | ⟨s, j, hM, hi, hj⟩
      · rw [hi] at HA
        have HM := Aside0.mk (show (M (base + (k : Int))).isSome = false by rw [hM]; rfl)
        clear hM hi
        go_wp2_with (go_at_call 27; refine HA.out.mono ?_; rintro e w1 ⟨rfl, rfl⟩)
        first | go_ret | go_ret2
        exact ⟨_, _, rfl, Or.inl ⟨rfl, k, hlt, rfl, HM.out, HL.out⟩, Below.refl _ _⟩
      · rw [hi] at HA
        have HM := Aside0.mk (show (M (base + (k : Int))).isSome = true by rw [hM]; rfl)
        have hj0 : ¬ (j : Int) < 0 := by omega
        clear hM hi hj
        go_wp2_with (go_at_call 27; refine HA.out.mono ?_; rintro e w1 ⟨rfl, rfl⟩)
        go_round
        case rel => exact ⟨k + 1, by omega, by go_num, ⟨fun j hj => by
          by_cases ej : j = k
          · rw [ej]; exact HM.out
          · exact HL.out j (by omega)⟩⟩
        case measure => simp [intOf]; omega
    · go_wp2
      first | go_ret | go_ret2
      exact ⟨_, _, rfl, Or.inr ⟨rfl, rfl, fun j hj => HL.out j (by omega)⟩, Below.refl _ _⟩
end Go.Proofs.YtjpnebhhpogebaaHPool
