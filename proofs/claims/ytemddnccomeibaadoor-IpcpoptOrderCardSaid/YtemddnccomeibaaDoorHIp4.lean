/- ipcpopt: the document's reading of an address. -/
import Derived.Test.YtemddnccomeibaaDoorHIp3
namespace Go.Proofs.YtemddnccomeibaaDoorHIp
open Go.RowKit Go.Lib Go.Proofs.YtemddnccomeibaaDoorW.PrintWords Go.Proofs.YtemddnccomeibaaDoorHW Go.Proofs.YtemddnccomeibaaDoorHG Go.Proofs.YtemddnccomeibaaDoor.PG10
set_option linter.unusedVariables false
set_option linter.unusedSimpArgs false
/-- The document's reading, a byte at a time. -/
def step (x : Int × Int) (c : Int) : Int × Int := if c = 46 then (x.1 * 256 % 4294967296 + x.2 % 256, 0) else (x.1, ((x.2 * 10 % 4294967296 + c % 64) % 4294967296 - 48) % 4294967296)
def run (s : ByteArray) : Nat → Int × Int
  | 0 => (0, 0)
  | i + 1 => step (run s i) (bt s i)
theorem run_range (s : ByteArray) : ∀ i, 0 ≤ (run s i).1 ∧ (run s i).1 < 4294967296 ∧ 0 ≤ (run s i).2 ∧ (run s i).2 < 4294967296
  | 0 => by unfold run; decide
  | i + 1 => by
    obtain ⟨h1, h2, h3, h4⟩ := run_range s i
    unfold run step
    split
    · dsimp only; omega
    · dsimp only; omega
def refA (s : ByteArray) : Int := (run s s.size).1 * 256 % 4294967296 + (run s s.size).2 % 256
def refK (s : ByteArray) : Int × Int := if s.size ≤ 15 ∧ textB (refA s) = s then (refA s, 0) else (0, 7)
theorem RefTextIs (a : Int) (r : ByteArray) (hr : textB a = r) (h0 : 0 ≤ a) (h1 : a < 4294967296) (w : World) (hv : VarsAt w) :
    Calls Tryd.prog 11 #[.int .u32 a] w fun e w' => e = .returned (.string r) ∧ Below w.heap.size w w' := by
  subst hr; exact RefText a h0 h1 w hv
set_option maxRecDepth 100000 in
set_option maxHeartbeats 2000000 in
theorem RefRead (s : ByteArray) (hs : s.size ≤ 100) (w : World) (hv : VarsAt w) :
    Calls Tryd.prog 9 #[.string s] w fun e w' => e = .returned (.tuple #[.int .u32 (refK s).1, .int .i64 (refK s).2]) ∧ Below w.heap.size w w' := by
  have HV := Aside0.mk hv
  have HB := Aside0.mk (Below.refl w.heap.size w)
  clear hv
  by_cases c15 : 15 < s.size
  · have d : decide ((15 : Int) < (s.size : Int)) = true := decide_eq_true (by omega)
    have HK := Aside0.mk (show refK s = (0, 7) by unfold refK; rw [if_neg (by omega)])
    go_enter Tryd.func9, Tryd.ntmps9
    go_wp2_with fail
    first | go_ret | go_ret2 | go_ret3
    exact ⟨by rw [HK.out]; rfl, HB.out⟩
  · have d : decide ((15 : Int) < (s.size : Int)) = false := decide_eq_false (by omega)
    go_enter Tryd.func9, Tryd.ntmps9
    go_wp2_with fail
    go_loop [4, 5, 6] (fun v4 v5 v6 => ∃ i : Nat, i ≤ s.size ∧ v6 = .int .i64 (i : Int) ∧ v4 = .int .u32 (run s i).1 ∧ v5 = .int .u32 (run s i).2) (fun _ _ v6 => s.size - (RowKit.intOf v6).toNat)
    case atStart => exact ⟨0, by omega, rfl, rfl, rfl⟩
    case round =>
      obtain ⟨i, hi, rfl, rfl, rfl⟩ := hrel
      obtain ⟨r1, r2, r3, r4⟩ := run_range s i
      obtain ⟨⟨v, n⟩, hr⟩ : ∃ p, run s i = p := ⟨_, rfl⟩
      rw [hr] at r1 r2 r3 r4 ⊢
      dsimp only at r1 r2 r3 r4 ⊢
      have HR := Aside0.mk hr
      clear hr
      by_cases hlt : i < s.size
      · have hlt' : (i : Int) < (s.size : Int) := by omega
        have g0 : ((s[i]'hlt).toNat : Int) = bt s i := by rw [← bt_at s i hlt]; rfl
        have gr := bt_range s i
        have HS := Aside0.mk (show run s (i + 1) = step (v, n) (bt s i) by unfold run; rw [HR.out])
        by_cases h46 : ((s[i]'hlt).toNat : Int) = 46
        · have e1 : (((s[i]'hlt).toNat : Int) == 46) = true := beq_iff_eq.mpr h46
          have o1 : Go.bits .or .u32 (v * 256 % 4294967296) (n % 256) = v * 256 % 4294967296 + n % 256 := Go.bits_join .u32 32 (by decide) (fun n h0 h1 => by rw [IntKind.wrap_u32]; omega) 8 (v * 256 % 4294967296) (n % 256) (by omega) (by omega) (by omega) (by omega) (by omega) (by omega)
          have HE := Aside0.mk (show run s (i + 1) = (v * 256 % 4294967296 + n % 256, 0) by rw [HS.out, ← g0]; unfold step; rw [if_pos h46])
          clear h46 g0
          go_wp2_with fail
          go_round
          case rel => exact ⟨i + 1, by omega, by go_num, by rw [HE.out], by rw [HE.out]⟩
          case measure => simp [RowKit.intOf]; omega
        · have e1 : (((s[i]'hlt).toNat : Int) == 46) = false := beq_eq_false_iff_ne.mpr h46
          have HE := Aside0.mk (show run s (i + 1) = (v, ((n * 10 + ((s[i]'hlt).toNat : Int) % 64) % 4294967296 - 48) % 4294967296) by rw [HS.out, ← g0]; unfold step; rw [if_neg h46]; simp only [Int.emod_add_emod])
          clear h46 g0
          go_wp2_with fail
          go_round
          case rel => exact ⟨i + 1, by omega, by go_num, by rw [HE.out], by rw [HE.out]⟩
          case measure => simp [RowKit.intOf]; omega
      · have hge : ¬ (i : Int) < (s.size : Int) := by omega
        have HI := Aside0.mk (show i = s.size by omega)
        have o1 : Go.bits .or .u32 (v * 256 % 4294967296) (n % 256) = v * 256 % 4294967296 + n % 256 := Go.bits_join .u32 32 (by decide) (fun n h0 h1 => by rw [IntKind.wrap_u32]; omega) 8 (v * 256 % 4294967296) (n % 256) (by omega) (by omega) (by omega) (by omega) (by omega) (by omega)
        have HA := Aside0.mk (show refA s = v * 256 % 4294967296 + n % 256 by unfold refA; rw [← HI.out, HR.out])
        obtain ⟨x, hx⟩ : ∃ x, x = v * 256 % 4294967296 + n % 256 := ⟨_, rfl⟩
        have x0 : 0 ≤ x := by omega
        have x1 : x < 4294967296 := by omega
        rw [← hx] at o1 HA
        clear hx hlt
        obtain ⟨r, hr⟩ : ∃ r, textB x = r := ⟨_, rfl⟩
        have HT := Aside0.mk hr
        clear hr
        by_cases c : r = s
        · obtain ⟨q1, q2⟩ := str_eqs c
          have HK := Aside0.mk (show refK s = (x, 0) by unfold refK; rw [HA.out, HT.out, if_pos ⟨by omega, c⟩])
          clear c
          go_wp2_with (go_at_call 11; go_must (refine (RefTextIs x r HT.out x0 x1 _ (VarsAt.below HV.out HB.out)).mono ?_); go_must (rintro e wj ⟨rfl, hb⟩; replace HB := Aside0.mk (below_step HB.out hb)); clear hb)
          first | go_ret | go_ret2 | go_ret3
          exact ⟨by rw [HK.out]; rfl, HB.out⟩
        · obtain ⟨q1, q2⟩ := str_nes c
          have HK := Aside0.mk (show refK s = (0, 7) by unfold refK; rw [HA.out, HT.out, if_neg (fun h => c h.2)])
          clear c
          go_wp2_with (go_at_call 11; go_must (refine (RefTextIs x r HT.out x0 x1 _ (VarsAt.below HV.out HB.out)).mono ?_); go_must (rintro e wj ⟨rfl, hb⟩; replace HB := Aside0.mk (below_step HB.out hb)); clear hb)
          first | go_ret | go_ret2 | go_ret3
          exact ⟨by rw [HK.out]; rfl, HB.out⟩
end Go.Proofs.YtemddnccomeibaaDoorHIp
