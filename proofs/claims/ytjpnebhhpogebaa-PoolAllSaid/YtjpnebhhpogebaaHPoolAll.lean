import Derived.Test.YtjpnebhhpogebaaHPool4
namespace Go.Proofs.YtjpnebhhpogebaaHPool
open Go.RowKit Go.Proofs.YtjpnebhhpogebaaW.PrintWords Go.Proofs.YtjpnebhhpogebaaHW Go.Proofs.YtjpnebhhpogebaaHG
set_option linter.unusedVariables false
set_option linter.unusedSimpArgs false
set_option maxRecDepth 100000 in
set_option maxHeartbeats 2000000 in
theorem PoolAll_no (a0 a1 : Int) (A2 : Option Addr) (c2 : Nat) (len : Nat) (w : World) (_l0 : 0 ≤ a0) (_u0 : a0 ≤ 4294967295) (_l1 : 0 ≤ a1) (_u1 : a1 ≤ 65535) (hlen : (len : Int) ≤ 9223372036854775807)
    (hb : ¬ (1 ≤ a0 ∧ a0 + (1 + a1 % 1024) ≤ 4294967296)) :
    Calls Try.prog 3 #[.int .u32 a0, .int .u16 a1, .slice A2 len c2] w (AliveRet w) := by
  obtain ⟨r, hr⟩ : ∃ r, a1 % 1024 = r := ⟨_, rfl⟩
  have r0 : 0 ≤ r := by omega
  have r1 : r ≤ 1023 := by omega
  have HN := Aside0.mk (show ¬ (1 ≤ (1 + r) ∧ (1 + r) ≤ 1024 ∧ 1 ≤ a0 ∧ a0 + (1 + r) ≤ 4294967296) by rw [← hr]; omega)
  have HB := Aside0.mk (Below.refl w.heap.size w)
  clear hb
  go_enter Try.func3, Try.ntmps3
  go_wp2_with (first
    | (go_at_call 6; go_must (refine (NewNo a0 (1 + r) _ _l0 (by omega) (by omega) (by omega) HN.out).mono ?_); rintro e w2 ⟨rfl, hd⟩; replace HB := Aside0.mk (below_step HB.out (drawn_below hd)); clear hd)
    | (go_at_call 7; go_must (refine (alive _).mono ?_); rintro e w3 ⟨rfl, hb⟩; replace HB := Aside0.mk (below_step HB.out hb); clear hb))
  go_ret
  exact ⟨rfl, HB.out⟩
set_option maxRecDepth 100000 in
set_option maxHeartbeats 2000000 in
theorem PoolAll_long (a0 a1 : Int) (A2 : Option Addr) (c2 : Nat) (len : Nat) (w : World) (_l0 : 0 ≤ a0) (_u0 : a0 ≤ 4294967295) (_l1 : 0 ≤ a1) (_u1 : a1 ≤ 65535) (hlen : (len : Int) ≤ 9223372036854775807)
    (hb : 1 ≤ a0 ∧ a0 + (1 + a1 % 1024) ≤ 4294967296) (h60 : 60 < len) :
    Calls Try.prog 3 #[.int .u32 a0, .int .u16 a1, .slice A2 len c2] w (AliveRet w) := by
  obtain ⟨r, hr⟩ : ∃ r, a1 % 1024 = r := ⟨_, rfl⟩
  have r0 : 0 ≤ r := by omega
  have r1 : r ≤ 1023 := by omega
  have b1 : 1 ≤ a0 := hb.1
  have b2 : a0 + (1 + r) ≤ 4294967296 := by rw [← hr]; exact hb.2
  have HB := Aside0.mk (Below.refl w.heap.size w)
  clear hb
  go_enter Try.func3, Try.ntmps3
  go_wp2_with (first
    | (go_at_call 6; go_must (refine (NewYes a0 (1 + r) _ (by omega) (by omega) b1 b2).mono ?_); rintro e w2 ⟨g, b, rfl, hP, hg0, hb0, hbl⟩; replace HB := Aside0.mk (below_step HB.out hbl); clear hP hg0 hb0 hbl)
    | (go_at_call 7; go_must (refine (alive _).mono ?_); rintro e w3 ⟨rfl, hb⟩; replace HB := Aside0.mk (below_step HB.out hb); clear hb))
  go_ret
  exact ⟨rfl, HB.out⟩
def PX (a0 : Int) : ByteArray := ⟨#[120]⟩
def PY : ByteArray := ⟨#[121]⟩
set_option maxRecDepth 100000 in
set_option maxHeartbeats 4000000 in
theorem PoolAll_yes (a0 a1 : Int) (A2 : Option Addr) (c2 : Nat) (l2 : List Int) (w : World) (_l0 : 0 ≤ a0) (_u0 : a0 ≤ 4294967295) (_l1 : 0 ≤ a1) (_u1 : a1 ≤ 65535) (hr2 : Kd.C (Kd.int .u16) w A2 l2.length l2) (hI2 : ∀ x ∈ l2, 0 ≤ x ∧ x ≤ 65535)
    (hb : 1 ≤ a0 ∧ a0 + (1 + a1 % 1024) ≤ 4294967296) (h60 : l2.length ≤ 60) :
    Calls Try.prog 3 #[.int .u32 a0, .int .u16 a1, .slice A2 l2.length c2] w (AliveRet w) := by
  obtain ⟨r, hr⟩ : ∃ r, a1 % 1024 = r := ⟨_, rfl⟩
  have r0 : 0 ≤ r := by omega
  have r1 : r ≤ 1023 := by omega
  have b1 : 1 ≤ a0 := hb.1
  have b2 : a0 + (1 + r) ≤ 4294967296 := by rw [← hr]; exact hb.2
  have HB := Aside0.mk (Below.refl w.heap.size w)
  have HR := Aside0.mk hr2
  have HI := Aside0.mk hI2
  clear hb hr2 hI2
  go_enter Try.func3, Try.ntmps3
  go_wp2_with (first
    | (go_at_call 6; go_must (refine (NewYes a0 (1 + r) _ (by omega) (by omega) b1 b2).mono ?_); rintro e w2 ⟨g, b, rfl, hP, hg0, hb0, hbl⟩; have P := Aside0.mk hP; have hg1 := hg0; have hb1 := hb0; replace HB := Aside0.mk (below_step HB.out hbl); clear hP hg0 hb0 hbl))
  go_loopw [10] (fun v10 wr => ∃ (k : Nat) (M : Int → Option ByteArray), (k : Int) ≤ 1 + r ∧ v10 = .int .i64 (k : Int) ∧ Aside0 (PoolAt wr g b a0 (1 + r) M k) ∧ Aside0 (Valid a0 (1 + r) M k) ∧ Aside0 (∀ j : Nat, (M (a0 + j)).isSome = decide (j < k)) ∧ Aside0 (Below w.heap.size w wr)) (fun v10 _ => (1 + r - intOf v10).toNat)
  case atStart => exact ⟨0, fun _ => none, by omega, rfl, P, ⟨valid0 a0 (1 + r) (by omega) (by omega) b1 b2⟩, ⟨fun j => by simp⟩, HB⟩
  case round =>
    clear P HB
    obtain ⟨k, M, hk, rfl, P, V, HA, HB⟩ := hrel
    by_cases hlt : (k : Int) < 1 + r
    · have s1 : IntKind.u32.wrap (k : Int) = k := by rw [IntKind.wrap_u32]; omega
      have s2 : IntKind.u32.wrap (a0 + (k : Int)) = a0 + k := by rw [IntKind.wrap_u32]; omega
      have a0' : 0 ≤ a0 + (k : Int) := by omega
      have a1' : a0 + (k : Int) < 4294967296 := by omega
      have HM := Aside0.mk (show (M (a0 + (k : Int))).isSome = false by rw [HA.out k]; simp)
      have HH := Aside0.mk (show hasB a0 (1 + r) (a0 + k) = true by unfold hasB; simp; omega)
      go_wp2_with (first
        | (go_at_call 8; go_must (refine (Least g b a0 (1 + r) M k _ P.out V.out).mono ?_); rintro e w3 ⟨addr, is, rfl, hL, hb⟩; obtain ⟨rfl, rfl⟩ := hL.nth k hlt (fun j hj => by rw [HA.out j]; simpa using hj) HM.out; replace HB := Aside0.mk (below_step HB.out hb); replace P := Aside0.mk (P.out.kb hb); clear hb hL)
        | (go_at_call 9; go_must (refine (Free g b a0 (1 + r) M k _ P.out V.out).mono ?_); rintro e w4 ⟨rfl, hd⟩; replace P := Aside0.mk (P.out.kb (drawn_below hd)); replace HB := Aside0.mk (below_step HB.out (drawn_below hd)); clear hd)
        | (go_at_call 10; go_must (refine (ClaimYes g b a0 (1 + r) (a0 + k) M k ⟨#[120]⟩ _ P.out V.out a0' a1' HH.out (by decide) (by decide) HM.out).mono ?_); rintro e w5 ⟨rfl, hP, hk1⟩; have P5 := Aside0.mk hP; have HB5 := Aside0.mk (KB.to_below HB.out hk1 hb1 HB.out.size); clear hP hk1))
      go_roundw
      case rel => exact ⟨k + 1, _, by omega, by go_num, P5, ⟨V.out.put (by omega) (by omega) HM.out⟩, ⟨fun j => by
        unfold pput
        by_cases e : a0 + (j : Int) = a0 + k
        · rw [if_pos e]; simp; omega
        · rw [if_neg e, HA.out j]; congr 1; simp; omega⟩, HB5⟩
      case measure => simp [intOf]; omega
    · have hke : (k : Int) = 1 + r := by omega
      have HE := Aside0.mk hke
      have hge : 1 + r ≤ (k : Int) := by omega
      clear hke hk hlt
      go_wp2_with (first
        | (go_at_call 8; go_must (refine (Least g b a0 (1 + r) M k _ P.out V.out).mono ?_); rintro e w3 ⟨addr, is, rfl, hL, hb⟩; obtain ⟨rfl, rfl⟩ := hL.full (fun j hj => by rw [HA.out j]; have := HE.out; simp; omega); replace HB := Aside0.mk (below_step HB.out hb); replace P := Aside0.mk (P.out.kb hb); clear hb hL)
        | (go_at_call 9; go_must (refine (Free g b a0 (1 + r) M k _ P.out V.out).mono ?_); rw [show 1 + r - (k : Int) = 0 from by have := HE.out; omega]; rintro e w4 ⟨rfl, hd⟩; replace P := Aside0.mk (P.out.kb (drawn_below hd)); replace HB := Aside0.mk (below_step HB.out (drawn_below hd)); clear hd)
        | (go_at_call 11; go_must (refine (ListLen g b a0 (1 + r) M k _ P.out V.out).mono ?_); rintro e w5 ⟨ad, cap, rfl, hb⟩; have hL := (beq_iff_eq.mpr HE.out : ((k : Int) == 1 + r) = true); have hL2 := (bne_eq_false_iff_eq.mpr HE.out : ((k : Int) != 1 + r) = false); replace HB := Aside0.mk (below_step HB.out hb); replace P := Aside0.mk (P.out.kb hb); clear hb))
      obtain ⟨k', hk'⟩ : ∃ k', k = k' + 1 := ⟨k - 1, by omega⟩
      have HK := Aside0.mk hk'
      have HAL := Aside0.mk (show ∀ j : Nat, (j : Int) < 1 + r → (M (a0 + j)).isSome = true from fun j hj => by rw [HA.out j]; have := HE.out; simp; omega)
      clear hk' HA
      go_loopw [15] (fun v15 wr => ∃ (i : Nat) (M : Int → Option ByteArray), i ≤ l2.length ∧ v15 = .int .i64 (i : Int) ∧ Aside0 (PoolAt wr g b a0 (1 + r) M (k' + 1)) ∧ Aside0 (Valid a0 (1 + r) M (k' + 1)) ∧ Aside0 (∀ j : Nat, (j : Int) < 1 + r → (M (a0 + j)).isSome = true) ∧ Aside0 (Below w.heap.size w wr)) (fun v15 _ => l2.length - (intOf v15).toNat)
      case atStart => exact ⟨0, M, by omega, rfl, ⟨by rw [← HK.out]; exact P.out⟩, ⟨by rw [← HK.out]; exact V.out⟩, HAL, HB⟩
      case round =>
        clear P V HAL HB
        obtain ⟨i, M, hi, rfl, P, V, HA, HB⟩ := hrel
        by_cases hlt : i < l2.length
        · obtain ⟨x, hx⟩ : ∃ x, l2[i]? = some x := ⟨_, List.getElem?_eq_getElem hlt⟩
          obtain ⟨ad, rfl, hcx⟩ := cellInt (Kd.C_below HR.out HB.out) i x hx
          obtain ⟨x0, x1⟩ := HI.out x (List.mem_of_getElem? hx)
          obtain ⟨j, hj⟩ : ∃ j : Nat, x % (1 + r) = j := ⟨(x % (1 + r)).toNat, by have := Int.emod_nonneg x (show 1 + r ≠ 0 by omega); omega⟩
          have hj2 : (j : Int) < 1 + r := by rw [← hj]; exact Int.emod_lt_of_pos _ (by omega)
          have s1 : IntKind.u32.wrap (j : Int) = j := by rw [IntKind.wrap_u32]; omega
          have s2 : IntKind.u32.wrap (a0 + (j : Int)) = a0 + j := by rw [IntKind.wrap_u32]; omega
          have a0' : 0 ≤ a0 + (j : Int) := by omega
          have a1' : a0 + (j : Int) < 4294967296 := by omega
          have HM := Aside0.mk (HA.out j hj2)
          have HH := Aside0.mk (show hasB a0 (1 + r) (a0 + j) = true by unfold hasB; simp; omega)
          have HD := Aside0.mk (show (pdel M (a0 + j) (a0 + j)).isSome = false by unfold pdel; rw [if_pos rfl]; rfl)
          have V2 := Aside0.mk (V.out.del HM.out)
          have HA2 := Aside0.mk (show ∀ q : Nat, q < j → (pdel M (a0 + j) (a0 + q)).isSome = true from fun q hq => by unfold pdel; rw [if_neg (by omega)]; exact HA.out q (by omega))
          have tok1 : True := trivial
          have tok2 : True := trivial
          clear hx
          go_wp2_with (first
            | (go_at_call 12; have t_ := tok1; clear t_; go_must (refine (Give g b a0 (1 + r) (a0 + j) M k' _ P.out a0' a1' HM.out).mono ?_); rintro e w6 ⟨rfl, hP, hk1⟩; replace P := Aside0.mk hP; replace HB := Aside0.mk (KB.to_below HB.out hk1 hb1 HB.out.size); clear hP hk1 tok1)
            | (go_at_call 12; have t_ := tok2; clear t_; go_must (refine (GiveNo g b a0 (1 + r) (a0 + j) _ k' _ P.out a0' a1' HD.out).mono ?_); rintro e w7 ⟨rfl, hb⟩; replace P := Aside0.mk (P.out.kb hb); replace HB := Aside0.mk (below_step HB.out hb); clear hb tok2)
            | (go_at_call 8; go_must (refine (Least g b a0 (1 + r) _ k' _ P.out V2.out).mono ?_); rintro e w8 ⟨addr, is, rfl, hL, hb⟩; obtain ⟨rfl, rfl⟩ := hL.nth j hj2 HA2.out HD.out; replace HB := Aside0.mk (below_step HB.out hb); replace P := Aside0.mk (P.out.kb hb); clear hb hL)
            | (go_at_call 10; go_must (refine (ClaimYes g b a0 (1 + r) (a0 + j) _ k' ⟨#[121]⟩ _ P.out V2.out a0' a1' HH.out (by decide) (by decide) HD.out).mono ?_); rintro e w9 ⟨rfl, hP, hk1⟩; have P5 := Aside0.mk hP; have HB5 := Aside0.mk (KB.to_below HB.out hk1 hb1 HB.out.size); clear hP hk1))
          go_roundw
          case rel => exact ⟨i + 1, _, by omega, by go_num, P5, ⟨V2.out.put (by omega) (by omega) HD.out⟩, ⟨fun q hq => by
            unfold pput pdel
            by_cases e : a0 + (q : Int) = a0 + j
            · rw [if_pos e]; rfl
            · rw [if_neg e, if_neg e]; exact HA.out q hq⟩, HB5⟩
          case measure => simp [intOf]; omega
        · go_wp2_with (first
            | (go_at_call 9; go_must (refine (Free g b a0 (1 + r) M (k' + 1) _ P.out V.out).mono ?_); rw [show 1 + r - ((k' + 1 : Nat) : Int) = 0 from by have := HE.out; have := HK.out; omega]; rintro e w4 ⟨rfl, hd⟩; replace P := Aside0.mk (P.out.kb (drawn_below hd)); replace HB := Aside0.mk (below_step HB.out (drawn_below hd)); clear hd)
            | (go_at_call 7; go_must (refine (alive _).mono ?_); rintro e w3 ⟨rfl, hb⟩; replace HB := Aside0.mk (below_step HB.out hb); clear hb))
          go_ret
          exact ⟨rfl, HB.out⟩
end Go.Proofs.YtjpnebhhpogebaaHPool
