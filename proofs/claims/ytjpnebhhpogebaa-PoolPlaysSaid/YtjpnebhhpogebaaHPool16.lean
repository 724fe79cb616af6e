/- Both sides' Claim and Give under one roof: one answer, one next state. -/
import Derived.Test.YtjpnebhhpogebaaHPool15
namespace Go.Proofs.YtjpnebhhpogebaaHPool
open Go.RowKit Go.Proofs.YtjpnebhhpogebaaW.PrintWords Go.Proofs.YtjpnebhhpogebaaHW Go.Proofs.YtjpnebhhpogebaaHG
set_option linter.unusedVariables false
set_option linter.unusedSimpArgs false
open Classical in
/-- What a claim answers, and what is taken then. -/
noncomputable def claimK (base n a : Int) (s : ByteArray) (M : Int → Option ByteArray) : Int := if hasB base n a = false ∨ s.size = 0 ∨ 32 < s.size then 2 else if (M a).isSome = true then 9 else 0
open Classical in
noncomputable def claimM (base n a : Int) (s : ByteArray) (M : Int → Option ByteArray) : Int → Option ByteArray := if claimK base n a s M = 0 then pput M a s else M
open Classical in
noncomputable def claimC (base n a : Int) (s : ByteArray) (M : Int → Option ByteArray) (c : Nat) : Nat := if claimK base n a s M = 0 then c + 1 else c
def ClaimPost (g b : Nat) (base n a : Int) (s : ByteArray) (M : Int → Option ByteArray) (c : Nat) (w : World) (e : Ending) (w' : World) : Prop := e = .returned (.int .i64 (claimK base n a s M)) ∧ PoolAt w' g b base n (claimM base n a s M) (claimC base n a s M c) ∧ Valid base n (claimM base n a s M) (claimC base n a s M c) ∧ KB b w w'
theorem ClaimAll (g b : Nat) (base n a : Int) (M : Int → Option ByteArray) (c : Nat) (s : ByteArray) (w : World) (h : PoolAt w g b base n M c) (hv : Valid base n M c) (a0 : 0 ≤ a) (a1 : a < 4294967296) :
    Calls Try.prog 10 #[.pointer (some ⟨g, 0, none⟩), .int .u32 a, .string s] w (ClaimPost g b base n a s M c w) := by
  have no : ∀ k : Int, claimK base n a s M = k → ¬ k = 0 → ∀ e w', (e = .returned (.int .i64 k) ∧ Below w.heap.size w w') → ClaimPost g b base n a s M c w e w' := by
    intro k hk hk0 e w' ⟨he, hb⟩
    have h0 : ¬ claimK base n a s M = 0 := by rw [hk]; exact hk0
    have hm : claimM base n a s M = M := by unfold claimM; rw [if_neg h0]
    have hc : claimC base n a s M c = c := by unfold claimC; rw [if_neg h0]
    exact ⟨by rw [hk]; exact he, by rw [hm, hc]; exact h.kb hb, by rw [hm, hc]; exact hv, KB.below hb⟩
  cases hh : hasB base n a with
  | false => exact (ClaimOut g b base n a M c s w h hv a0 a1 hh).mono fun e w' hp => no 2 (by unfold claimK; rw [if_pos (.inl hh)]) (by decide) e w' hp
  | true =>
    by_cases hs : s.size = 0
    · exact (ClaimEmpty g b base n a M c s w h hv a0 a1 hh hs).mono fun e w' hp => no 2 (by unfold claimK; rw [if_pos (.inr (.inl hs))]) (by decide) e w' hp
    · by_cases hl : 32 < s.size
      · exact (ClaimLong g b base n a M c s w h hv a0 a1 hh hs hl).mono fun e w' hp => no 2 (by unfold claimK; rw [if_pos (.inr (.inr hl))]) (by decide) e w' hp
      · have hn : ¬ (hasB base n a = false ∨ s.size = 0 ∨ 32 < s.size) := by rintro (h | h | h); (· rw [hh] at h; exact absurd h (by simp)); (· exact hs h); (· exact hl h)
        cases hM : (M a).isSome with
        | true => exact (ClaimHave g b base n a M c s w h hv a0 a1 hh hs (by omega) hM).mono fun e w' hp => no 9 (by unfold claimK; rw [if_neg hn, if_pos hM]) (by decide) e w' hp
        | false =>
          have h0 : claimK base n a s M = 0 := by unfold claimK; rw [if_neg hn, if_neg (by rw [hM]; decide)]
          have hm : claimM base n a s M = pput M a s := by unfold claimM; rw [if_pos h0]
          have hc : claimC base n a s M c = c + 1 := by unfold claimC; rw [if_pos h0]
          have hd : base ≤ a ∧ a < base + n := by unfold hasB at hh; simpa using hh
          refine (ClaimYes g b base n a M c s w h hv a0 a1 hh hs (by omega) hM).mono fun e w' hp => ?_
          exact ⟨by rw [h0]; exact hp.1, by rw [hm, hc]; exact hp.2.1, by rw [hm, hc]; exact hv.put hd.1 hd.2 hM, hp.2.2⟩
def RefPost (B g : Nat) (base n : Int) (k : Int) (M' : Int → Option ByteArray) (w : World) (e : Ending) (w' : World) : Prop := e = .returned (.int .i64 k) ∧ RefAt B w' g base n (leases base M' n.toNat) ∧ KB g w w'
theorem RefClaimAll (B g : Nat) (base n a : Int) (M : Int → Option ByteArray) (c : Nat) (s : ByteArray) (w : World) (h : RefAt B w g base n (leases base M n.toNat)) (hv : Valid base n M c) (a0 : 0 ≤ a) (a1 : a < 4294967296) (hB : B ≤ w.heap.size) :
    Calls Try.prog 18 #[.pointer (some ⟨g, 0, none⟩), .int .u32 a, .string s] w (RefPost B g base n (claimK base n a s M) (claimM base n a s M) w) := by
  have no : ∀ k : Int, claimK base n a s M = k → ¬ k = 0 → ∀ e w', (e = .returned (.int .i64 k) ∧ Below w.heap.size w w') → RefPost B g base n (claimK base n a s M) (claimM base n a s M) w e w' := by
    intro k hk hk0 e w' ⟨he, hb⟩
    have h0 : ¬ claimK base n a s M = 0 := by rw [hk]; exact hk0
    have hm : claimM base n a s M = M := by unfold claimM; rw [if_neg h0]
    exact ⟨by rw [hk]; exact he, by rw [hm]; exact h.below hb, KB.below hb⟩
  cases hh : hasB base n a with
  | false => exact (RefClaimOut B g base n a s M c w h hv a0 a1 hh).mono fun e w' hp => no 2 (by unfold claimK; rw [if_pos (.inl hh)]) (by decide) e w' hp
  | true =>
    by_cases hs : s.size = 0
    · exact (RefClaimEmpty B g base n a s M c w h hv a0 a1 hh hs).mono fun e w' hp => no 2 (by unfold claimK; rw [if_pos (.inr (.inl hs))]) (by decide) e w' hp
    · by_cases hl : 32 < s.size
      · exact (RefClaimLong B g base n a s M c w h hv a0 a1 hh hl).mono fun e w' hp => no 2 (by unfold claimK; rw [if_pos (.inr (.inr hl))]) (by decide) e w' hp
      · have hn : ¬ (hasB base n a = false ∨ s.size = 0 ∨ 32 < s.size) := by rintro (h | h | h); (· rw [hh] at h; exact absurd h (by simp)); (· exact hs h); (· exact hl h)
        cases hM : (M a).isSome with
        | true => exact (RefClaimHave B g base n a s M c w h hv a0 a1 hh hs (by omega) hM).mono fun e w' hp => no 9 (by unfold claimK; rw [if_neg hn, if_pos hM]) (by decide) e w' hp
        | false =>
          have h0 : claimK base n a s M = 0 := by unfold claimK; rw [if_neg hn, if_neg (by rw [hM]; decide)]
          have hm : claimM base n a s M = pput M a s := by unfold claimM; rw [if_pos h0]
          have hd : base ≤ a ∧ a < base + n := by unfold hasB at hh; simpa using hh
          have hM' : M a = none := by cases hx : M a with | none => rfl | some y => rw [hx] at hM; exact absurd hM (by simp)
          refine (RefClaimYes B g base n a s M c w h hv a0 a1 hh hs (by omega) hM hB).mono fun e w' hp => ?_
          obtain ⟨he, i, hi, hr, hk⟩ := hp
          rw [ins_leases hd.1 hd.2 hM' hi] at hr
          exact ⟨by rw [h0]; exact he, by rw [hm]; exact hr, hk⟩
noncomputable def giveK (a : Int) (M : Int → Option ByteArray) : Int := if (M a).isSome = true then 0 else 3
noncomputable def giveM (a : Int) (M : Int → Option ByteArray) : Int → Option ByteArray := if (M a).isSome = true then pdel M a else M
noncomputable def giveC (a : Int) (M : Int → Option ByteArray) (c : Nat) : Nat := if (M a).isSome = true then c - 1 else c
def GivePost (g b : Nat) (base n a : Int) (M : Int → Option ByteArray) (c : Nat) (w : World) (e : Ending) (w' : World) : Prop := e = .returned (.int .i64 (giveK a M)) ∧ PoolAt w' g b base n (giveM a M) (giveC a M c) ∧ Valid base n (giveM a M) (giveC a M c) ∧ KB b w w'
theorem GiveAll (g b : Nat) (base n a : Int) (M : Int → Option ByteArray) (c : Nat) (w : World) (h : PoolAt w g b base n M c) (hv : Valid base n M c) (a0 : 0 ≤ a) (a1 : a < 4294967296) :
    Calls Try.prog 12 #[.pointer (some ⟨g, 0, none⟩), .int .u32 a] w (GivePost g b base n a M c w) := by
  unfold GivePost giveK giveM giveC
  cases hM : (M a).isSome with
  | false =>
    exact (GiveNo g b base n a M c w h a0 a1 hM).mono fun e w' hp => ⟨hp.1, h.kb hp.2, hv, KB.below hp.2⟩
  | true =>
    have hd := hv.dom a hM
    have hc : 1 ≤ c := by
      have := cnt_del base a M hM n.toNat hd.1 (by have := hv.n1; omega)
      have := hv.cn
      omega
    obtain ⟨c', rfl⟩ : ∃ c', c = c' + 1 := ⟨c - 1, by omega⟩
    exact (Give g b base n a M c' w h a0 a1 hM).mono fun e w' hp => ⟨hp.1, hp.2.1, hv.del hM, hp.2.2⟩
theorem RefGiveAll (B g : Nat) (base n a : Int) (M : Int → Option ByteArray) (c : Nat) (w : World) (h : RefAt B w g base n (leases base M n.toNat)) (hv : Valid base n M c) (hB : B ≤ w.heap.size) :
    Calls Try.prog 19 #[.pointer (some ⟨g, 0, none⟩), .int .u32 a] w (RefPost B g base n (giveK a M) (giveM a M) w) := by
  unfold RefPost giveK giveM
  cases hM : M a with
  | none => exact (RefGiveNo B g base n a M c w h hv (by rw [hM]; rfl)).mono fun e w' hp => ⟨hp.1, by rw [hp.2]; exact h, by rw [hp.2]; exact KB.refl _ _⟩
  | some s => exact (RefGiveYes B g base n a s M c w h hv hM hB).mono fun e w' hp => ⟨hp.1, hp.2.1, hp.2.2⟩
end Go.Proofs.YtjpnebhhpogebaaHPool
