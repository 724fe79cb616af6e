/- The document's answer to the pool: a row of leases, rising. -/
import Derived.Test.YtjpnebhhpogebaaHPool3
import Derived.Laws.OwnMore
import Derived.Deep.AppendLies
namespace Go.Proofs.YtjpnebhhpogebaaHPool
open Go.RowKit Go.Proofs.YtjpnebhhpogebaaW.PrintWords Go.Proofs.YtjpnebhhpogebaaHW Go.Proofs.YtjpnebhhpogebaaHG
set_option linter.unusedVariables false
set_option linter.unusedSimpArgs false
/-- The document's pool: its block, its row. -/
def RefAt (B : Nat) (w : World) (g : Nat) (base n : Int) (ls : List (Int × ByteArray)) : Prop :=
  ∃ v, w.heap[g]? = some (.cells #[.int .u32 base, .int .i64 n, v] 50 (0, 0)) ∧ w.ownsRow B 62 2 v ls.length (leaseCells ls) ∧ v.ownBlock ≠ some g
theorem leaseCells_len (ls : List (Int × ByteArray)) : (leaseCells ls).length = 2 * ls.length := by
  induction ls with
  | nil => rfl
  | cons p ls ih => simp only [leaseCells, List.flatMap_cons, List.length_append, List.length_cons, List.length_nil] at ih ⊢; omega
theorem leaseCells_at : ∀ (ls : List (Int × ByteArray)) (i : Nat) (p : Int × ByteArray), ls[i]? = some p → (leaseCells ls)[i * 2]? = some (.int .u32 p.1) ∧ (leaseCells ls)[i * 2 + 1]? = some (.string p.2)
  | [], i, p, h => by simp at h
  | q :: ls, 0, p, h => by simp at h; subst h; exact ⟨rfl, rfl⟩
  | q :: ls, i + 1, p, h => by
    have := leaseCells_at ls i p (by simpa using h)
    simp only [leaseCells, List.flatMap_cons] at this ⊢
    rw [show (i + 1) * 2 = i * 2 + 1 + 1 by omega]
    simpa using this
/-- The place of an address. -/
def atIx (ls : List (Int × ByteArray)) (a : Int) : Int := match ls.findIdx? (fun p => p.1 == a) with | some i => i | none => -1
theorem atIx_some (ls : List (Int × ByteArray)) (a : Int) (i : Nat) (p : Int × ByteArray) (h : ls[i]? = some p) (e : p.1 = a) (hl : ∀ j, j < i → ∀ q, ls[j]? = some q → q.1 ≠ a) : atIx ls a = i := by
  have : ls.findIdx? (fun p => p.1 == a) = some i := by
    rw [List.findIdx?_eq_some_iff_getElem]
    obtain ⟨hi, hp⟩ := List.getElem?_eq_some_iff.1 h
    refine ⟨hi, by rw [hp, e]; simp, fun j hj => ?_⟩
    have := hl j hj ls[j] (List.getElem?_eq_getElem (by omega))
    simpa using this
  unfold atIx
  rw [this]
theorem atIx_none (ls : List (Int × ByteArray)) (a : Int) (h : ∀ (j : Nat) (q : Int × ByteArray), ls[j]? = some q → q.1 ≠ a) : atIx ls a = -1 := by
  have : ls.findIdx? (fun p => p.1 == a) = none := by
    rw [List.findIdx?_eq_none_iff]
    intro p hp
    obtain ⟨j, hj⟩ := List.mem_iff_getElem?.1 hp
    simpa using h j p hj
  unfold atIx
  rw [this]
set_option maxRecDepth 100000 in
set_option maxHeartbeats 1000000 in
theorem RefAtOf (B g : Nat) (base n a : Int) (ls : List (Int × ByteArray)) (w : World) (h : RefAt B w g base n ls) (hl : ls.length ≤ 100000) :
    Calls Try.prog 27 #[.pointer (some ⟨g, 0, none⟩), .int .u32 a] w fun e w' => e = .returned (.int .i64 (atIx ls a)) ∧ w' = w := by
  obtain ⟨v, h1, h2, h3⟩ := h
  obtain ⟨ad, cap, rfl⟩ := own_slice h2
  have k2 := blk_cell h1 2
  simp only [List.getElem?_toArray, List.getElem?_cons_zero, List.getElem?_cons_succ] at k2
  have H2 := Aside0.mk h2
  clear h1 h2 h3
  go_enter Try.func27, Try.ntmps27
  go_wp2_with fail
  go_loop [5] (fun v5 => ∃ i : Nat, i ≤ ls.length ∧ v5 = .int .i64 (i : Int) ∧ Aside0 (∀ j, j < i → ∀ q, ls[j]? = some q → q.1 ≠ a)) (fun v5 => ls.length - (intOf v5).toNat)
  case atStart => exact ⟨0, by omega, rfl, ⟨fun j hj => by omega⟩⟩
  case round =>
    obtain ⟨i, hi, rfl, HL⟩ := hrel
    by_cases hlt : i < ls.length
    · obtain ⟨p, hp⟩ : ∃ p, ls[i]? = some p := ⟨_, List.getElem?_eq_getElem hlt⟩
      obtain ⟨c1, c2⟩ := leaseCells_at ls i p hp
      have hlt' : (i : Int) < (ls.length : Int) := by omega
      obtain ⟨gl, cap', hv, _, _⟩ := World.ownsRow.form H2.out (by omega)
      injection hv with hv1 hv2 hv3
      subst hv1
      have d1 := World.ownsRow.cellAt H2.out (i * 2) (by omega)
      rw [c1] at d1
      have HPi := Aside0.mk hp
      clear c1 c2 hv2 hv3 hp
      by_cases e : p.1 = a
      · have e1 : (p.1 == a) = true := by simpa using e
        have HE := Aside0.mk e
        clear e
        go_wp2
        go_ret
        exact ⟨by rw [atIx_some ls a i p HPi.out HE.out HL.out]; rfl, rfl⟩
      · have e1 : (p.1 == a) = false := by simpa using e
        have HE := Aside0.mk e
        clear e
        go_wp2
        go_round
        case rel => exact ⟨i + 1, by omega, by go_num, ⟨fun j hj q hq => by
          by_cases ej : j = i
          · rw [ej, HPi.out] at hq; rw [← Option.some.inj hq]; exact HE.out
          · exact HL.out j (by omega) q hq⟩⟩
        case measure => simp [intOf]; omega
    · have hge : ¬ (i : Int) < (ls.length : Int) := by omega
      go_wp2
      go_ret
      exact ⟨by rw [atIx_none ls a (fun j q hq => HL.out j (by obtain ⟨hj, _⟩ := List.getElem?_eq_some_iff.1 hq; omega) q hq)]; rfl, rfl⟩
theorem RefAt.below {B g : Nat} {w w1 : World} {base n : Int} {ls : List (Int × ByteArray)} (h : RefAt B w g base n ls) (hb : Below w.heap.size w w1) : RefAt B w1 g base n ls := by
  obtain ⟨v, h1, h2, h3⟩ := h
  exact ⟨v, hw_below h1 hb, pw_own_below h2 hb, h3⟩
theorem leases_mem (base : Int) (M : Int → Option ByteArray) : ∀ (k : Nat) (q : Int × ByteArray), q ∈ leases base M k → M q.1 = some q.2 ∧ base ≤ q.1 ∧ q.1 < base + k
  | 0, q, h => by simp [leases] at h
  | k + 1, q, h => by
    simp only [leases, List.mem_append] at h
    rcases h with h | h
    · obtain ⟨h1, h2, h3⟩ := leases_mem base M k q h
      exact ⟨h1, h2, by omega⟩
    · cases hM : M (base + k) with
      | none => rw [hM] at h; simp at h
      | some s => rw [hM] at h; simp at h; subst h; exact ⟨hM, by simp; omega, by simp; omega⟩
theorem leases_has (base : Int) (M : Int → Option ByteArray) (a : Int) (s : ByteArray) (hM : M a = some s) : ∀ k : Nat, base ≤ a → a < base + k → (a, s) ∈ leases base M k
  | 0, h0, h1 => by omega
  | k + 1, h0, h1 => by
    simp only [leases, List.mem_append]
    by_cases e : a = base + k
    · right; rw [← e, hM]; simp
    · left; exact leases_has base M a s hM k h0 (by omega)
theorem findIdx_of (ls : List (Int × ByteArray)) (a : Int) (i : Nat) (h : ls.findIdx? (fun p => p.1 == a) = some i) : ∃ p, ls[i]? = some p ∧ p.1 = a := by
  rw [List.findIdx?_eq_some_iff_getElem] at h
  obtain ⟨hi, hp, _⟩ := h
  exact ⟨_, List.getElem?_eq_getElem hi, by simpa using hp⟩
/-- Where an address lies in the row, and that it lies there just if it is taken. -/
theorem atIx_look {base n : Int} {M : Int → Option ByteArray} {c : Nat} (hv : Valid base n M c) (a : Int) : (M a = none ∧ atIx (leases base M n.toNat) a = -1) ∨ ∃ s, ∃ j : Nat, M a = some s ∧ atIx (leases base M n.toNat) a = j ∧ (leases base M n.toNat)[j]? = some (a, s) := by
  cases hf : (leases base M n.toNat).findIdx? (fun p => p.1 == a) with
  | none =>
    refine Or.inl ⟨?_, by unfold atIx; rw [hf]⟩
    cases hM : M a with
    | none => rfl
    | some s =>
      obtain ⟨d1, d2⟩ := hv.dom a (by rw [hM]; rfl)
      rw [List.findIdx?_eq_none_iff] at hf
      have h1 := hv.n1
      have := hf (a, s) (leases_has base M a s hM n.toNat d1 (by omega))
      simp at this
  | some i =>
    obtain ⟨p, hp, e⟩ := findIdx_of _ _ _ hf
    have hm := (leases_mem base M n.toNat p (List.mem_of_getElem? hp)).1
    rw [e] at hm
    refine Or.inr ⟨p.2, i, hm, by unfold atIx; rw [hf], by rw [hp, ← e]⟩
theorem leases_le {base n : Int} {M : Int → Option ByteArray} {c : Nat} (hv : Valid base n M c) : (leases base M n.toNat).length ≤ 1024 := by
  have h1 := hv.n2
  have h2 := cnt_le base M n.toNat
  rw [leases_len]; omega
set_option maxRecDepth 100000 in
set_option maxHeartbeats 1000000 in
theorem RefHas (B g : Nat) (base n a : Int) (ls : List (Int × ByteArray)) (w : World) (h : RefAt B w g base n ls) (b1 : 1 ≤ base) (b2 : base + n ≤ 4294967296) (n1 : 1 ≤ n) (n2 : n ≤ 1024) (a0 : 0 ≤ a) (a1 : a < 4294967296) :
    Calls Try.prog 22 #[.pointer (some ⟨g, 0, none⟩), .int .u32 a] w fun e w' => e = .returned (.bool (hasB base n a)) ∧ Drawn0 w w' := by
  obtain ⟨v, h1, h2, h3⟩ := h
  have k0 := blk_cell h1 0
  have k1 := blk_cell h1 1
  simp only [List.getElem?_toArray, List.getElem?_cons_zero, List.getElem?_cons_succ] at k0 k1
  unfold hasB
  clear h1 h2 h3
  have s1 : IntKind.u64.wrap n = n := by rw [IntKind.wrap_u64]; omega
  have s2 : IntKind.u64.wrap base = base := by rw [IntKind.wrap_u64]; omega
  have s3 : IntKind.u64.wrap a = a := by rw [IntKind.wrap_u64]; omega
  have s4 : IntKind.u64.wrap (base + n) = base + n := by rw [IntKind.wrap_u64]; omega
  by_cases c1 : base ≤ a
  · have d1 : decide (base ≤ a) = true := decide_eq_true c1
    by_cases c2 : a < base + n
    · have d2 : decide (a < base + n) = true := decide_eq_true c2
      have E := Aside0.mk (show true = (decide (base ≤ a) && decide (a < base + n)) by simp [c1, c2])
      clear c1 c2
      go_enter Try.func22, Try.ntmps22
      go_wp2_with fail
      repeat (go_quiet (fail); try go_wp2)
      go_ret
      exact ⟨congrArg (fun z => Ending.returned (.bool z)) E.out, by repeat (first | exact Drawn0.refl _ | apply Drawn0.step)⟩
    · have d2 : decide (a < base + n) = false := decide_eq_false c2
      have E := Aside0.mk (show false = (decide (base ≤ a) && decide (a < base + n)) by simp [c1, c2])
      clear c1 c2
      go_enter Try.func22, Try.ntmps22
      go_wp2_with fail
      repeat (go_quiet (fail); try go_wp2)
      go_ret
      exact ⟨congrArg (fun z => Ending.returned (.bool z)) E.out, by repeat (first | exact Drawn0.refl _ | apply Drawn0.step)⟩
  · have d1 : decide (base ≤ a) = false := decide_eq_false c1
    have E := Aside0.mk (show false = (decide (base ≤ a) && decide (a < base + n)) by simp [c1])
    clear c1
    go_enter Try.func22, Try.ntmps22
    go_wp2_with fail
    repeat (go_quiet (fail); try go_wp2)
    go_ret
    exact ⟨congrArg (fun z => Ending.returned (.bool z)) E.out, by repeat (first | exact Drawn0.refl _ | apply Drawn0.step)⟩
end Go.Proofs.YtjpnebhhpogebaaHPool
