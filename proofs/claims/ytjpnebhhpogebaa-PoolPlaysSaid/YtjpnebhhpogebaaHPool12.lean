/- Plain facts on the row of leases: one more, one less. -/
import Derived.Test.YtjpnebhhpogebaaHPool11
namespace Go.Proofs.YtjpnebhhpogebaaHPool
open Go.RowKit Go.Proofs.YtjpnebhhpogebaaW.PrintWords Go.Proofs.YtjpnebhhpogebaaHW Go.Proofs.YtjpnebhhpogebaaHG
set_option linter.unusedVariables false
set_option linter.unusedSimpArgs false
theorem leases_congr (base : Int) (M M' : Int → Option ByteArray) : ∀ k : Nat, (∀ j : Nat, j < k → M (base + j) = M' (base + j)) → leases base M k = leases base M' k
  | 0, _ => rfl
  | k + 1, h => by
    simp only [leases]
    rw [leases_congr base M M' k (fun j hj => h j (by omega)), h k (by omega)]
def oneAt (a : Int) (x : Option ByteArray) : List (Int × ByteArray) := match x with | some s => [(a, s)] | none => []
theorem leases_split (base : Int) (M M' : Int → Option ByteArray) (k : Nat) (h : ∀ j : Nat, j ≠ k → M (base + j) = M' (base + j)) : ∀ r : Nat, ∃ T : List (Int × ByteArray), leases base M (k + 1 + r) = leases base M k ++ (oneAt (base + k) (M (base + k)) ++ T) ∧ leases base M' (k + 1 + r) = leases base M k ++ (oneAt (base + k) (M' (base + k)) ++ T) ∧ ∀ q ∈ T, base + k < q.1
  | 0 => by
    refine ⟨[], ?_, ?_, by simp⟩
    · simp only [Nat.add_zero, leases, List.append_nil]; rfl
    · simp only [Nat.add_zero, leases, List.append_nil]
      rw [leases_congr base M M' k (fun j hj => h j (by omega))]; rfl
  | r + 1 => by
    obtain ⟨T, h1, h2, h3⟩ := leases_split base M M' k h r
    refine ⟨T ++ oneAt (base + ((k + 1 + r : Nat) : Int)) (M (base + ((k + 1 + r : Nat) : Int))), ?_, ?_, ?_⟩
    · show leases base M (k + 1 + r) ++ _ = _
      rw [h1]; simp only [List.append_assoc]; rfl
    · show leases base M' (k + 1 + r) ++ _ = _
      rw [h2, h (k + 1 + r) (by omega)]; simp only [List.append_assoc]; rfl
    · intro q hq
      rcases List.mem_append.1 hq with hq | hq
      · exact h3 q hq
      · unfold oneAt at hq
        split at hq
        · simp at hq; subst hq; simp; omega
        · simp at hq
/-- A new one, laid where it belongs. -/
theorem ins_leases {base n a : Int} {M : Int → Option ByteArray} {s : ByteArray} {i : Nat} (h0 : base ≤ a) (h1 : a < base + n) (hM : M a = none) (hi : InsAt (leases base M n.toNat) a i) :
    (leases base M n.toNat).take i ++ (a, s) :: (leases base M n.toNat).drop i = leases base (pput M a s) n.toNat := by
  obtain ⟨k, hk⟩ : ∃ k : Nat, a = base + k := ⟨(a - base).toNat, by omega⟩
  obtain ⟨r, hr⟩ : ∃ r : Nat, n.toNat = k + 1 + r := ⟨n.toNat - k - 1, by omega⟩
  obtain ⟨T, e1, e2, e3⟩ := leases_split base M (pput M a s) k (fun j hj => by unfold pput; rw [if_neg (by omega)]) r
  rw [hr] at hi ⊢
  have hp : pput M a s (base + k) = some s := by unfold pput; rw [if_pos hk.symm]
  rw [← hk] at e1 e2 e3
  rw [hM] at e1
  rw [← hk] at hp
  rw [hp] at e2
  have e1' : leases base M (k + 1 + r) = leases base M k ++ T := e1
  rw [e2]
  rw [e1'] at hi ⊢
  have hA : i = (leases base M k).length := by
    obtain ⟨q1, q2, q3⟩ := hi
    rcases Nat.lt_trichotomy i (leases base M k).length with hlt | heq | hgt
    · have hq := List.getElem?_eq_getElem (l := leases base M k ++ T) (i := i) (by simp; omega)
      have hm := List.getElem?_eq_getElem hlt
      have := q3 _ hq
      have hmem := leases_mem base M k _ (List.getElem_mem hlt)
      rw [List.getElem_append_left hlt] at this
      omega
    · exact heq
    · have hl : (leases base M k).length < (leases base M k ++ T).length := by omega
      have hq := List.getElem?_eq_getElem hl
      have := q2 _ hgt _ hq
      have hT : (leases base M k ++ T)[(leases base M k).length] ∈ T := by
        rw [List.getElem_append_right (Nat.le_refl _)]; exact List.getElem_mem _
      have := e3 _ hT
      omega
  rw [hA, List.take_left, List.drop_left]
  rfl
/-- One is given back. -/
theorem del_leases {base n a : Int} {M : Int → Option ByteArray} {s : ByteArray} {j : Nat} (h0 : base ≤ a) (h1 : a < base + n) (hM : M a = some s) (hj : (leases base M n.toNat)[j]? = some (a, s)) :
    (leases base M n.toNat).take j ++ (leases base M n.toNat).drop (j + 1) = leases base (pdel M a) n.toNat := by
  obtain ⟨k, hk⟩ : ∃ k : Nat, a = base + k := ⟨(a - base).toNat, by omega⟩
  obtain ⟨r, hr⟩ : ∃ r : Nat, n.toNat = k + 1 + r := ⟨n.toNat - k - 1, by omega⟩
  obtain ⟨T, e1, e2, e3⟩ := leases_split base M (pdel M a) k (fun j hj => by unfold pdel; rw [if_neg (by omega)]) r
  rw [hr] at hj ⊢
  have hp : pdel M a (base + k) = none := by unfold pdel; rw [if_pos hk.symm]
  rw [← hk] at e1 e2 e3 hp
  rw [hM] at e1
  rw [hp] at e2
  have e1' : leases base M (k + 1 + r) = leases base M k ++ (a, s) :: T := e1
  have e2' : leases base (pdel M a) (k + 1 + r) = leases base M k ++ T := e2
  rw [e2']
  rw [e1'] at hj ⊢
  have hA : j = (leases base M k).length := by
    rcases Nat.lt_trichotomy j (leases base M k).length with hlt | heq | hgt
    · rw [List.getElem?_append_left hlt] at hj
      have := (leases_mem base M k _ (List.mem_of_getElem? hj)).2.2
      simp at this; omega
    · exact heq
    · rw [List.getElem?_append_right (by omega)] at hj
      obtain ⟨m, hm⟩ : ∃ m, j - (leases base M k).length = m + 1 := ⟨j - (leases base M k).length - 1, by omega⟩
      rw [hm, List.getElem?_cons_succ] at hj
      have := e3 _ (List.mem_of_getElem? hj)
      simp at this
  rw [hA, List.take_left]
  congr 1
  have := List.drop_append_of_le_length (l₁ := leases base M k) (l₂ := (a, s) :: T) (i := (leases base M k).length) (Nat.le_refl _)
  rw [show (leases base M k).length + 1 = (leases base M k).length + 1 from rfl, ← List.drop_drop, List.drop_left]
  rfl
end Go.Proofs.YtjpnebhhpogebaaHPool
