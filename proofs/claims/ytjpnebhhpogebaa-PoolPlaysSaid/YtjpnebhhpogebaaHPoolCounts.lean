import Derived.Test.YtjpnebhhpogebaaHPool4
import Derived.Test.YtjpnebhhpogebaaPG26x0
import Derived.Test.YtjpnebhhpogebaaPG26x3
namespace Go.Proofs.YtjpnebhhpogebaaHPool
open Go.RowKit Go.Proofs.YtjpnebhhpogebaaW.PrintWords Go.Proofs.YtjpnebhhpogebaaHW Go.Proofs.YtjpnebhhpogebaaHG Go.Proofs.Ytjpnebhhpogebaa.PG26
set_option linter.unusedVariables false
set_option linter.unusedSimpArgs false
theorem long_go (l : List S41) : ∀ (d k : Nat) (s i : Int), 0 ≤ i → i ≤ 200 → (200 - i).toNat ≤ d → d < k → ∃ b, halyardlaw26_long.l0 k l s i = some b ∧ (b = false → l.length ≤ 100) := by
  intro d
  induction d with
  | zero =>
    intro k s i h0 h1 hd hk
    obtain ⟨k, rfl⟩ : ∃ m, k = m + 1 := ⟨k - 1, by omega⟩
    simp only [halyardlaw26_long.l0]
    rw [if_neg (show ¬ i < 200 by omega)]
    split
    · split
      · exact ⟨_, rfl, by simp⟩
      · exact ⟨_, rfl, fun _ => by omega⟩
    · split
      · exact ⟨_, rfl, by simp⟩
      · exact ⟨_, rfl, fun _ => by omega⟩
  | succ d ih =>
    intro k s i h0 h1 hd hk
    obtain ⟨k, rfl⟩ : ∃ m, k = m + 1 := ⟨k - 1, by omega⟩
    simp only [halyardlaw26_long.l0]
    by_cases c : i < (l.length : Int)
    · rw [if_pos c]
      by_cases c2 : i < 200
      · rw [if_pos c2, if_pos h0, show wrap64 (i + 1) = i + 1 by unfold wrap64; omega]
        exact ih k _ (i + 1) (by omega) (by omega) (by omega) (by omega)
      · rw [if_neg c2]
        split
        · exact ⟨_, rfl, by simp⟩
        · exact ⟨_, rfl, fun _ => by omega⟩
    · rw [if_neg c]
      split
      · exact ⟨_, rfl, by simp⟩
      · exact ⟨_, rfl, fun _ => by omega⟩
theorem long_val (l : List S41) : ∃ b, halyardlaw26_long.f 300 l = some b ∧ (b = false → l.length ≤ 100) :=
  long_go l 200 300 0 0 (by decide) (by decide) (by decide) (by decide)
def AnyRet (g b : Nat) (base n : Int) (w : World) (e : Ending) (w' : World) : Prop := ∃ r M' c', e = .returned (.int .i64 r) ∧ PoolAt w' g b base n M' c' ∧ Valid base n M' c' ∧ KB b w w'
theorem ClaimAny (g b : Nat) (base n a : Int) (M : Int → Option ByteArray) (c : Nat) (s : ByteArray) (w : World) (h : PoolAt w g b base n M c) (hv : Valid base n M c) (a0 : 0 ≤ a) (a1 : a < 4294967296) :
    Calls Try.prog 10 #[.pointer (some ⟨g, 0, none⟩), .int .u32 a, .string s] w (AnyRet g b base n w) := by
  cases hh : hasB base n a with
  | false => exact (ClaimOut g b base n a M c s w h hv a0 a1 hh).mono fun e w' hp => ⟨_, M, c, hp.1, h.kb hp.2, hv, KB.below hp.2⟩
  | true =>
    by_cases hs : s.size = 0
    · exact (ClaimEmpty g b base n a M c s w h hv a0 a1 hh hs).mono fun e w' hp => ⟨_, M, c, hp.1, h.kb hp.2, hv, KB.below hp.2⟩
    by_cases hl : 32 < s.size
    · exact (ClaimLong g b base n a M c s w h hv a0 a1 hh hs hl).mono fun e w' hp => ⟨_, M, c, hp.1, h.kb hp.2, hv, KB.below hp.2⟩
    cases hM : (M a).isSome with
    | true => exact (ClaimHave g b base n a M c s w h hv a0 a1 hh hs (by omega) hM).mono fun e w' hp => ⟨_, M, c, hp.1, h.kb hp.2, hv, KB.below hp.2⟩
    | false =>
      have hr : base ≤ a ∧ a < base + n := by unfold hasB at hh; simpa using hh
      exact (ClaimYes g b base n a M c s w h hv a0 a1 hh hs (by omega) hM).mono fun e w' hp => ⟨_, _, c + 1, hp.1, hp.2.1, hv.put hr.1 hr.2 hM, hp.2.2⟩
theorem GiveAny (g b : Nat) (base n a : Int) (M : Int → Option ByteArray) (c : Nat) (w : World) (h : PoolAt w g b base n M c) (hv : Valid base n M c) (a0 : 0 ≤ a) (a1 : a < 4294967296) :
    Calls Try.prog 12 #[.pointer (some ⟨g, 0, none⟩), .int .u32 a] w (AnyRet g b base n w) := by
  cases hM : (M a).isSome with
  | false => exact (GiveNo g b base n a M c w h a0 a1 hM).mono fun e w' hp => ⟨_, M, c, hp.1, h.kb hp.2, hv, KB.below hp.2⟩
  | true =>
    have hd := hv.dom a hM
    have hc : 1 ≤ c := by
      have := cnt_del base a M hM n.toNat hd.1 (by have := hv.n1; omega)
      have := hv.cn
      omega
    obtain ⟨c', rfl⟩ : ∃ c', c = c' + 1 := ⟨c - 1, by omega⟩
    exact (Give g b base n a M c' w h a0 a1 hM).mono fun e w' hp => ⟨_, _, c', hp.1, hp.2.1, hv.del hM, hp.2.2⟩
set_option maxRecDepth 100000 in
set_option maxHeartbeats 4000000 in
theorem PoolCounts_yes (a0 a1 : Int) (A2 : Option Addr) (c2 : Nat) (l2 : List S41) (w : World) (_l0 : 0 ≤ a0) (_u0 : a0 ≤ 4294967295) (_l1 : 0 ≤ a1) (_u1 : a1 ≤ 255) (hr2 : Kd.C k41 w A2 l2.length l2) (hc2 : l2.length ≤ c2) (hI2 : ∀ x ∈ l2, 0 ≤ x.f1 ∧ x.f1 ≤ 4294967295)
    (hb : 1 ≤ a0 ∧ a0 + (1 + a1 % 60) ≤ 4294967296) (hl : halyardlaw26_long.f 300 l2 = some false) (h100 : l2.length ≤ 100) :
    Calls Try.prog 4 #[.int .u32 a0, .int .u8 a1, .slice A2 l2.length c2] w (AliveRet w) := by
  obtain ⟨r, hr⟩ : ∃ r, a1 % 60 = r := ⟨_, rfl⟩
  have r0 : 0 ≤ r := by omega
  have r1 : r ≤ 59 := by omega
  have b1 : 1 ≤ a0 := hb.1
  have b2 : a0 + (1 + r) ≤ 4294967296 := by rw [← hr]; exact hb.2
  have HB := Aside0.mk (Below.refl w.heap.size w)
  have HR := Aside0.mk hr2
  have HR0 := Aside0.mk hr2
  have HI := Aside0.mk hI2
  have HL := Aside0.mk hl
  have HC := Aside0.mk hc2
  clear hb hr2 hI2 hl hc2
  go_enter Try.func4, Try.ntmps4
  go_wp2_with (first
    | (go_at_call 13; go_must (refine (halyardlaw26_long.calls 300 A2 c2 l2 false _ HR.out HC.out HL.out).mono ?_); rintro e w1 ⟨rfl, hd⟩; replace HB := Aside0.mk (below_step HB.out (drawn_below hd)); replace HR := Aside0.mk (Kd.C_below HR.out (drawn_below hd)); clear hd)
    | (go_at_call 6; go_must (refine (NewYes a0 (1 + r) _ (by omega) (by omega) b1 b2).mono ?_); rintro e w2 ⟨g, b, rfl, hP, hg0, hb0, hbl⟩; have P := Aside0.mk hP; have hg1 := Nat.le_trans HB.out.size hg0; have hb1 := Nat.le_trans HB.out.size hb0; replace HB := Aside0.mk (below_step HB.out hbl); replace HR := Aside0.mk (Kd.C_below HR.out hbl); clear hP hg0 hb0 hbl))
  go_loopw [10] (fun v10 wr => ∃ (i : Nat) (M : Int → Option ByteArray) (c : Nat), i ≤ l2.length ∧ v10 = .int .i64 (i : Int) ∧ Aside0 (PoolAt wr g b a0 (1 + r) M c) ∧ Aside0 (Valid a0 (1 + r) M c) ∧ Aside0 (Below w.heap.size w wr)) (fun v10 _ => l2.length - (intOf v10).toNat)
  case atStart => exact ⟨0, _, 0, by omega, rfl, P, ⟨valid0 a0 (1 + r) (by omega) (by omega) b1 b2⟩, HB⟩
  case round =>
    clear P HB HR
    obtain ⟨i, M, c, hi, rfl, P, V, HB⟩ := hrel
    have HR := Aside0.mk (Kd.C_below HR0.out HB.out)
    by_cases hlt : i < l2.length
    · obtain ⟨x, hx⟩ : ∃ x, x = rd_T41 l2 i := ⟨_, rfl⟩
      obtain ⟨ad, rfl, q0, q1, q2, q3⟩ := at_T41 HR.out (i : Int) (by omega) (by omega)
      rw [← hx, Int.toNat_natCast] at q0 q1 q2 q3
      have hxm : x ∈ l2 := by
        rw [hx]; unfold rd_T41
        rw [Int.toNat_natCast, List.getD_eq_getElem?_getD, List.getElem?_eq_getElem hlt]
        exact List.getElem_mem _
      obtain ⟨x0, x1⟩ := HI.out x hxm
      obtain ⟨j, hj⟩ : ∃ j : Nat, x.f1 % (1 + r) = j := ⟨(x.f1 % (1 + r)).toNat, by have := Int.emod_nonneg x.f1 (show 1 + r ≠ 0 by omega); omega⟩
      have hj2 : (j : Int) < 1 + r := by rw [← hj]; exact Int.emod_lt_of_pos _ (by omega)
      have s0 : IntKind.u32.wrap (1 + r) = 1 + r := by rw [IntKind.wrap_u32]; omega
      have s2 : IntKind.u32.wrap (a0 + (j : Int)) = a0 + j := by rw [IntKind.wrap_u32]; omega
      have a0' : 0 ≤ a0 + (j : Int) := by omega
      have a1' : a0 + (j : Int) < 4294967296 := by omega
      clear hx hxm
      by_cases d0 : x.f0 = 0
      · have e0 : (x.f0 == 0) = true := beq_iff_eq.mpr d0
        clear d0
        go_wp2_with (first
            | (go_at_call 10; go_must (refine (ClaimAny g b a0 (1 + r) (a0 + j) M c x.f3 _ P.out V.out a0' a1').mono ?_); rintro e w5 ⟨rr, M', c', rfl, hP, hv, hk1⟩; replace P := Aside0.mk hP; replace V := Aside0.mk hv; replace HB := Aside0.mk (KB.to_below HB.out hk1 hb1 HB.out.size); clear hP hk1 hv)
            | (go_at_call 12; go_must (refine (GiveAny g b a0 (1 + r) (a0 + j) M c _ P.out V.out a0' a1').mono ?_); rintro e w5 ⟨rr, M', c', rfl, hP, hv, hk1⟩; replace P := Aside0.mk hP; replace V := Aside0.mk hv; replace HB := Aside0.mk (KB.to_below HB.out hk1 hb1 HB.out.size); clear hP hk1 hv)
            | (go_at_call 8; go_must (refine (Least g b a0 (1 + r) _ _ _ P.out V.out).mono ?_); rintro e w8 ⟨addr, is, rfl, hL, hb⟩; have HLL := Aside0.mk hL; replace HB := Aside0.mk (below_step HB.out hb); replace P := Aside0.mk (P.out.kb hb); clear hb hL))
        rcases HLL.out with ⟨rfl, k0, hk0, rfl, hM0, hA0⟩ | ⟨rfl, rfl, hA0⟩
        · replace hM0 := Aside0.mk hM0
          replace hA0 := Aside0.mk hA0
          go_loopw [12, 15] (fun v12 v15 wr => ∃ k : Nat, (k : Int) ≤ 1 + r ∧ v15 = .int .i64 (k : Int) ∧ v12 = .int .i64 (cnt a0 M' k : Nat) ∧ Aside0 (PoolAt wr g b a0 (1 + r) M' c') ∧ Aside0 (Below w.heap.size w wr)) (fun _ v15 _ => (1 + r - intOf v15).toNat)
          case atStart => exact ⟨0, by omega, rfl, rfl, P, HB⟩
          case round =>
            clear P HB HR
            obtain ⟨k, hk, rfl, rfl, P, HB⟩ := hrel
            have hcl := cnt_le a0 M' k
            by_cases hlk : (k : Int) < 1 + r
            · have s3 : IntKind.u32.wrap (k : Int) = k := by rw [IntKind.wrap_u32]; omega
              have s4 : IntKind.u32.wrap (a0 + (k : Int)) = a0 + k := by rw [IntKind.wrap_u32]; omega
              have b0' : 0 ≤ a0 + (k : Int) := by omega
              have b1' : a0 + (k : Int) < 4294967296 := by omega
              cases hS : (M' (a0 + (k : Int))).isSome with
              | true =>
                have HS := Aside0.mk hS
                have hne : ¬ k = k0 := fun e => by rw [e] at hS; have := hM0.out; rw [hS] at this; exact absurd this (by simp)
                have f1 : ((a0 + (k : Int)) == a0 + (k0 : Int)) = false := beq_eq_false_iff_ne.mpr (by omega)
                have f2 : ((k : Int) == (k0 : Int)) = false := beq_eq_false_iff_ne.mpr (by omega)
                have f3 : (k == k0) = false := beq_eq_false_iff_ne.mpr hne
                clear hS
                go_wp2_with (go_at_call 14; go_must (refine (Owner g b a0 (1 + r) (a0 + k) M' c' _ P.out b0' b1').mono ?_); rw [HS.out]; rintro e w9 ⟨rfl, hb⟩; have HB9 := Aside0.mk (below_step HB.out hb); have P9 := Aside0.mk (P.out.kb hb); clear hb)
                all_goals
                  go_roundw
                  case rel => exact ⟨k + 1, by omega, by go_num, by rw [show cnt a0 M' (k + 1) = cnt a0 M' k + 1 by simp only [cnt]; rw [HS.out]; rfl]; go_num, P9, HB9⟩
                  case measure => simp [intOf]; omega
              | false =>
                have HS := Aside0.mk hS
                have hge : k0 ≤ k := by
                  rcases Nat.lt_or_ge k k0 with h | h
                  · have := hA0.out k h; rw [hS] at this; exact absurd this (by simp)
                  · exact h
                clear hS
                by_cases hke : k = k0
                · have f1 : ((a0 + (k : Int)) == a0 + (k0 : Int)) = true := beq_iff_eq.mpr (by omega)
                  have f2 : ((k : Int) == (k0 : Int)) = true := beq_iff_eq.mpr (by omega)
                  have f3 : (k == k0) = true := beq_iff_eq.mpr hke
                  have f4 : decide (a0 + (k : Int) < a0 + (k0 : Int)) = false := decide_eq_false (by omega)
                  clear hke
                  go_wp2_with (go_at_call 14; go_must (refine (Owner g b a0 (1 + r) (a0 + k) M' c' _ P.out b0' b1').mono ?_); rw [HS.out]; rintro e w9 ⟨rfl, hb⟩; have HB9 := Aside0.mk (below_step HB.out hb); have P9 := Aside0.mk (P.out.kb hb); clear hb)
                  go_roundw
                  case rel => exact ⟨k + 1, by omega, by go_num, by rw [show cnt a0 M' (k + 1) = cnt a0 M' k by simp only [cnt]; rw [HS.out]; rfl], P9, HB9⟩
                  case measure => simp [intOf]; omega
                · have f1 : ((a0 + (k : Int)) == a0 + (k0 : Int)) = false := beq_eq_false_iff_ne.mpr (by omega)
                  have f2 : ((k : Int) == (k0 : Int)) = false := beq_eq_false_iff_ne.mpr (by omega)
                  have f3 : (k == k0) = false := beq_eq_false_iff_ne.mpr hke
                  have f4 : decide (a0 + (k : Int) < a0 + (k0 : Int)) = false := decide_eq_false (by omega)
                  go_wp2_with (go_at_call 14; go_must (refine (Owner g b a0 (1 + r) (a0 + k) M' c' _ P.out b0' b1').mono ?_); rw [HS.out]; rintro e w9 ⟨rfl, hb⟩; have HB9 := Aside0.mk (below_step HB.out hb); have P9 := Aside0.mk (P.out.kb hb); clear hb)
                  go_roundw
                  case rel => exact ⟨k + 1, by omega, by go_num, by rw [show cnt a0 M' (k + 1) = cnt a0 M' k by simp only [cnt]; rw [HS.out]; rfl], P9, HB9⟩
                  case measure => simp [intOf]; omega
            · have HCN := Aside0.mk (show cnt a0 M' k = c' by rw [V.out.cn]; congr 1; omega)
              have hcb : (c' : Int) ≤ 1 + r := by have := HCN.out; omega
              rw [HCN.out]
              clear hcl
              go_wp2_with (first
                | (go_at_call 9; go_must (refine (Free g b a0 (1 + r) M' c' _ P.out V.out).mono ?_); rintro e w4 ⟨rfl, hd⟩; replace P := Aside0.mk (P.out.kb (drawn_below hd)); replace HB := Aside0.mk (below_step HB.out (drawn_below hd)); clear hd)
                | (go_at_call 11; go_must (refine (ListLen g b a0 (1 + r) M' c' _ P.out V.out).mono ?_); rintro e w5 ⟨ad2, cap2, rfl, hb⟩; replace HB := Aside0.mk (below_step HB.out hb); replace P := Aside0.mk (P.out.kb hb); clear hb))
              go_roundw
              case rel => exact ⟨i + 1, M', c', by omega, by go_num, P, V, HB⟩
              case measure => simp [intOf]; omega
        · replace hA0 := Aside0.mk hA0
          go_loopw [12, 15] (fun v12 v15 wr => ∃ k : Nat, (k : Int) ≤ 1 + r ∧ v15 = .int .i64 (k : Int) ∧ v12 = .int .i64 (cnt a0 M' k : Nat) ∧ Aside0 (PoolAt wr g b a0 (1 + r) M' c') ∧ Aside0 (Below w.heap.size w wr)) (fun _ v15 _ => (1 + r - intOf v15).toNat)
          case atStart => exact ⟨0, by omega, rfl, rfl, P, HB⟩
          case round =>
            clear P HB HR
            obtain ⟨k, hk, rfl, rfl, P, HB⟩ := hrel
            have hcl := cnt_le a0 M' k
            by_cases hlk : (k : Int) < 1 + r
            · have s3 : IntKind.u32.wrap (k : Int) = k := by rw [IntKind.wrap_u32]; omega
              have s4 : IntKind.u32.wrap (a0 + (k : Int)) = a0 + k := by rw [IntKind.wrap_u32]; omega
              have b0' : 0 ≤ a0 + (k : Int) := by omega
              have b1' : a0 + (k : Int) < 4294967296 := by omega
              have HS := Aside0.mk (hA0.out k hlk)
              go_wp2_with (go_at_call 14; go_must (refine (Owner g b a0 (1 + r) (a0 + k) M' c' _ P.out b0' b1').mono ?_); rw [HS.out]; rintro e w9 ⟨rfl, hb⟩; have HB9 := Aside0.mk (below_step HB.out hb); have P9 := Aside0.mk (P.out.kb hb); clear hb)
              all_goals
                go_roundw
                case rel => exact ⟨k + 1, by omega, by go_num, by rw [show cnt a0 M' (k + 1) = cnt a0 M' k + 1 by simp only [cnt]; rw [HS.out]; rfl]; go_num, P9, HB9⟩
                case measure => simp [intOf]; omega
            · have HCN := Aside0.mk (show cnt a0 M' k = c' by rw [V.out.cn]; congr 1; omega)
              have hcb : (c' : Int) ≤ 1 + r := by have := HCN.out; omega
              rw [HCN.out]
              clear hcl
              go_wp2_with (first
                | (go_at_call 9; go_must (refine (Free g b a0 (1 + r) M' c' _ P.out V.out).mono ?_); rintro e w4 ⟨rfl, hd⟩; replace P := Aside0.mk (P.out.kb (drawn_below hd)); replace HB := Aside0.mk (below_step HB.out (drawn_below hd)); clear hd)
                | (go_at_call 11; go_must (refine (ListLen g b a0 (1 + r) M' c' _ P.out V.out).mono ?_); rintro e w5 ⟨ad2, cap2, rfl, hb⟩; replace HB := Aside0.mk (below_step HB.out hb); replace P := Aside0.mk (P.out.kb hb); clear hb))
              go_roundw
              case rel => exact ⟨i + 1, M', c', by omega, by go_num, P, V, HB⟩
              case measure => simp [intOf]; omega
      · have e0 : (x.f0 == 0) = false := beq_eq_false_iff_ne.mpr d0
        by_cases d1 : x.f0 = 1
        · have e1 : (x.f0 == 1) = true := beq_iff_eq.mpr d1
          clear d0 d1
          go_wp2_with (first
            | (go_at_call 10; go_must (refine (ClaimAny g b a0 (1 + r) (a0 + j) M c x.f3 _ P.out V.out a0' a1').mono ?_); rintro e w5 ⟨rr, M', c', rfl, hP, hv, hk1⟩; replace P := Aside0.mk hP; replace V := Aside0.mk hv; replace HB := Aside0.mk (KB.to_below HB.out hk1 hb1 HB.out.size); clear hP hk1 hv)
            | (go_at_call 12; go_must (refine (GiveAny g b a0 (1 + r) (a0 + j) M c _ P.out V.out a0' a1').mono ?_); rintro e w5 ⟨rr, M', c', rfl, hP, hv, hk1⟩; replace P := Aside0.mk hP; replace V := Aside0.mk hv; replace HB := Aside0.mk (KB.to_below HB.out hk1 hb1 HB.out.size); clear hP hk1 hv)
            | (go_at_call 8; go_must (refine (Least g b a0 (1 + r) _ _ _ P.out V.out).mono ?_); rintro e w8 ⟨addr, is, rfl, hL, hb⟩; have HLL := Aside0.mk hL; replace HB := Aside0.mk (below_step HB.out hb); replace P := Aside0.mk (P.out.kb hb); clear hb hL))
          rcases HLL.out with ⟨rfl, k0, hk0, rfl, hM0, hA0⟩ | ⟨rfl, rfl, hA0⟩
          · replace hM0 := Aside0.mk hM0
            replace hA0 := Aside0.mk hA0
            go_loopw [12, 15] (fun v12 v15 wr => ∃ k : Nat, (k : Int) ≤ 1 + r ∧ v15 = .int .i64 (k : Int) ∧ v12 = .int .i64 (cnt a0 M' k : Nat) ∧ Aside0 (PoolAt wr g b a0 (1 + r) M' c') ∧ Aside0 (Below w.heap.size w wr)) (fun _ v15 _ => (1 + r - intOf v15).toNat)
            case atStart => exact ⟨0, by omega, rfl, rfl, P, HB⟩
            case round =>
              clear P HB HR
              obtain ⟨k, hk, rfl, rfl, P, HB⟩ := hrel
              have hcl := cnt_le a0 M' k
              by_cases hlk : (k : Int) < 1 + r
              · have s3 : IntKind.u32.wrap (k : Int) = k := by rw [IntKind.wrap_u32]; omega
                have s4 : IntKind.u32.wrap (a0 + (k : Int)) = a0 + k := by rw [IntKind.wrap_u32]; omega
                have b0' : 0 ≤ a0 + (k : Int) := by omega
                have b1' : a0 + (k : Int) < 4294967296 := by omega
                cases hS : (M' (a0 + (k : Int))).isSome with
                | true =>
                  have HS := Aside0.mk hS
                  have hne : ¬ k = k0 := fun e => by rw [e] at hS; have := hM0.out; rw [hS] at this; exact absurd this (by simp)
                  have f1 : ((a0 + (k : Int)) == a0 + (k0 : Int)) = false := beq_eq_false_iff_ne.mpr (by omega)
                  have f2 : ((k : Int) == (k0 : Int)) = false := beq_eq_false_iff_ne.mpr (by omega)
                  have f3 : (k == k0) = false := beq_eq_false_iff_ne.mpr hne
                  clear hS
                  go_wp2_with (go_at_call 14; go_must (refine (Owner g b a0 (1 + r) (a0 + k) M' c' _ P.out b0' b1').mono ?_); rw [HS.out]; rintro e w9 ⟨rfl, hb⟩; have HB9 := Aside0.mk (below_step HB.out hb); have P9 := Aside0.mk (P.out.kb hb); clear hb)
                  all_goals
                    go_roundw
                    case rel => exact ⟨k + 1, by omega, by go_num, by rw [show cnt a0 M' (k + 1) = cnt a0 M' k + 1 by simp only [cnt]; rw [HS.out]; rfl]; go_num, P9, HB9⟩
                    case measure => simp [intOf]; omega
                | false =>
                  have HS := Aside0.mk hS
                  have hge : k0 ≤ k := by
                    rcases Nat.lt_or_ge k k0 with h | h
                    · have := hA0.out k h; rw [hS] at this; exact absurd this (by simp)
                    · exact h
                  clear hS
                  by_cases hke : k = k0
                  · have f1 : ((a0 + (k : Int)) == a0 + (k0 : Int)) = true := beq_iff_eq.mpr (by omega)
                    have f2 : ((k : Int) == (k0 : Int)) = true := beq_iff_eq.mpr (by omega)
                    have f3 : (k == k0) = true := beq_iff_eq.mpr hke
                    have f4 : decide (a0 + (k : Int) < a0 + (k0 : Int)) = false := decide_eq_false (by omega)
                    clear hke
                    go_wp2_with (go_at_call 14; go_must (refine (Owner g b a0 (1 + r) (a0 + k) M' c' _ P.out b0' b1').mono ?_); rw [HS.out]; rintro e w9 ⟨rfl, hb⟩; have HB9 := Aside0.mk (below_step HB.out hb); have P9 := Aside0.mk (P.out.kb hb); clear hb)
                    go_roundw
                    case rel => exact ⟨k + 1, by omega, by go_num, by rw [show cnt a0 M' (k + 1) = cnt a0 M' k by simp only [cnt]; rw [HS.out]; rfl], P9, HB9⟩
                    case measure => simp [intOf]; omega
                  · have f1 : ((a0 + (k : Int)) == a0 + (k0 : Int)) = false := beq_eq_false_iff_ne.mpr (by omega)
                    have f2 : ((k : Int) == (k0 : Int)) = false := beq_eq_false_iff_ne.mpr (by omega)
                    have f3 : (k == k0) = false := beq_eq_false_iff_ne.mpr hke
                    have f4 : decide (a0 + (k : Int) < a0 + (k0 : Int)) = false := decide_eq_false (by omega)
                    go_wp2_with (go_at_call 14; go_must (refine (Owner g b a0 (1 + r) (a0 + k) M' c' _ P.out b0' b1').mono ?_); rw [HS.out]; rintro e w9 ⟨rfl, hb⟩; have HB9 := Aside0.mk (below_step HB.out hb); have P9 := Aside0.mk (P.out.kb hb); clear hb)
                    go_roundw
                    case rel => exact ⟨k + 1, by omega, by go_num, by rw [show cnt a0 M' (k + 1) = cnt a0 M' k by simp only [cnt]; rw [HS.out]; rfl], P9, HB9⟩
                    case measure => simp [intOf]; omega
              · have HCN := Aside0.mk (show cnt a0 M' k = c' by rw [V.out.cn]; congr 1; omega)
                have hcb : (c' : Int) ≤ 1 + r := by have := HCN.out; omega
                rw [HCN.out]
                clear hcl
                go_wp2_with (first
                  | (go_at_call 9; go_must (refine (Free g b a0 (1 + r) M' c' _ P.out V.out).mono ?_); rintro e w4 ⟨rfl, hd⟩; replace P := Aside0.mk (P.out.kb (drawn_below hd)); replace HB := Aside0.mk (below_step HB.out (drawn_below hd)); clear hd)
                  | (go_at_call 11; go_must (refine (ListLen g b a0 (1 + r) M' c' _ P.out V.out).mono ?_); rintro e w5 ⟨ad2, cap2, rfl, hb⟩; replace HB := Aside0.mk (below_step HB.out hb); replace P := Aside0.mk (P.out.kb hb); clear hb))
                go_roundw
                case rel => exact ⟨i + 1, M', c', by omega, by go_num, P, V, HB⟩
                case measure => simp [intOf]; omega
          · replace hA0 := Aside0.mk hA0
            go_loopw [12, 15] (fun v12 v15 wr => ∃ k : Nat, (k : Int) ≤ 1 + r ∧ v15 = .int .i64 (k : Int) ∧ v12 = .int .i64 (cnt a0 M' k : Nat) ∧ Aside0 (PoolAt wr g b a0 (1 + r) M' c') ∧ Aside0 (Below w.heap.size w wr)) (fun _ v15 _ => (1 + r - intOf v15).toNat)
            case atStart => exact ⟨0, by omega, rfl, rfl, P, HB⟩
            case round =>
              clear P HB HR
              obtain ⟨k, hk, rfl, rfl, P, HB⟩ := hrel
              have hcl := cnt_le a0 M' k
              by_cases hlk : (k : Int) < 1 + r
              · have s3 : IntKind.u32.wrap (k : Int) = k := by rw [IntKind.wrap_u32]; omega
                have s4 : IntKind.u32.wrap (a0 + (k : Int)) = a0 + k := by rw [IntKind.wrap_u32]; omega
                have b0' : 0 ≤ a0 + (k : Int) := by omega
                have b1' : a0 + (k : Int) < 4294967296 := by omega
                have HS := Aside0.mk (hA0.out k hlk)
                go_wp2_with (go_at_call 14; go_must (refine (Owner g b a0 (1 + r) (a0 + k) M' c' _ P.out b0' b1').mono ?_); rw [HS.out]; rintro e w9 ⟨rfl, hb⟩; have HB9 := Aside0.mk (below_step HB.out hb); have P9 := Aside0.mk (P.out.kb hb); clear hb)
                all_goals
                  go_roundw
                  case rel => exact ⟨k + 1, by omega, by go_num, by rw [show cnt a0 M' (k + 1) = cnt a0 M' k + 1 by simp only [cnt]; rw [HS.out]; rfl]; go_num, P9, HB9⟩
                  case measure => simp [intOf]; omega
              · have HCN := Aside0.mk (show cnt a0 M' k = c' by rw [V.out.cn]; congr 1; omega)
                have hcb : (c' : Int) ≤ 1 + r := by have := HCN.out; omega
                rw [HCN.out]
                clear hcl
                go_wp2_with (first
                  | (go_at_call 9; go_must (refine (Free g b a0 (1 + r) M' c' _ P.out V.out).mono ?_); rintro e w4 ⟨rfl, hd⟩; replace P := Aside0.mk (P.out.kb (drawn_below hd)); replace HB := Aside0.mk (below_step HB.out (drawn_below hd)); clear hd)
                  | (go_at_call 11; go_must (refine (ListLen g b a0 (1 + r) M' c' _ P.out V.out).mono ?_); rintro e w5 ⟨ad2, cap2, rfl, hb⟩; replace HB := Aside0.mk (below_step HB.out hb); replace P := Aside0.mk (P.out.kb hb); clear hb))
                go_roundw
                case rel => exact ⟨i + 1, M', c', by omega, by go_num, P, V, HB⟩
                case measure => simp [intOf]; omega
        · have e1 : (x.f0 == 1) = false := beq_eq_false_iff_ne.mpr d1
          clear d0 d1
          go_wp2_with (first
            | (go_at_call 10; go_must (refine (ClaimAny g b a0 (1 + r) (a0 + j) M c x.f3 _ P.out V.out a0' a1').mono ?_); rintro e w5 ⟨rr, M', c', rfl, hP, hv, hk1⟩; replace P := Aside0.mk hP; replace V := Aside0.mk hv; replace HB := Aside0.mk (KB.to_below HB.out hk1 hb1 HB.out.size); clear hP hk1 hv)
            | (go_at_call 12; go_must (refine (GiveAny g b a0 (1 + r) (a0 + j) M c _ P.out V.out a0' a1').mono ?_); rintro e w5 ⟨rr, M', c', rfl, hP, hv, hk1⟩; replace P := Aside0.mk hP; replace V := Aside0.mk hv; replace HB := Aside0.mk (KB.to_below HB.out hk1 hb1 HB.out.size); clear hP hk1 hv)
            | (go_at_call 8; go_must (refine (Least g b a0 (1 + r) _ _ _ P.out V.out).mono ?_); rintro e w8 ⟨addr, is, rfl, hL, hb⟩; have HLL := Aside0.mk hL; replace HB := Aside0.mk (below_step HB.out hb); replace P := Aside0.mk (P.out.kb hb); clear hb hL))
          rcases HLL.out with ⟨rfl, k0, hk0, rfl, hM0, hA0⟩ | ⟨rfl, rfl, hA0⟩
          · replace hM0 := Aside0.mk hM0
            replace hA0 := Aside0.mk hA0
            go_loopw [12, 15] (fun v12 v15 wr => ∃ k : Nat, (k : Int) ≤ 1 + r ∧ v15 = .int .i64 (k : Int) ∧ v12 = .int .i64 (cnt a0 M k : Nat) ∧ Aside0 (PoolAt wr g b a0 (1 + r) M c) ∧ Aside0 (Below w.heap.size w wr)) (fun _ v15 _ => (1 + r - intOf v15).toNat)
            case atStart => exact ⟨0, by omega, rfl, rfl, P, HB⟩
            case round =>
              clear P HB HR
              obtain ⟨k, hk, rfl, rfl, P, HB⟩ := hrel
              have hcl := cnt_le a0 M k
              by_cases hlk : (k : Int) < 1 + r
              · have s3 : IntKind.u32.wrap (k : Int) = k := by rw [IntKind.wrap_u32]; omega
                have s4 : IntKind.u32.wrap (a0 + (k : Int)) = a0 + k := by rw [IntKind.wrap_u32]; omega
                have b0' : 0 ≤ a0 + (k : Int) := by omega
                have b1' : a0 + (k : Int) < 4294967296 := by omega
                cases hS : (M (a0 + (k : Int))).isSome with
                | true =>
                  have HS := Aside0.mk hS
                  have hne : ¬ k = k0 := fun e => by rw [e] at hS; have := hM0.out; rw [hS] at this; exact absurd this (by simp)
                  have f1 : ((a0 + (k : Int)) == a0 + (k0 : Int)) = false := beq_eq_false_iff_ne.mpr (by omega)
                  have f2 : ((k : Int) == (k0 : Int)) = false := beq_eq_false_iff_ne.mpr (by omega)
                  have f3 : (k == k0) = false := beq_eq_false_iff_ne.mpr hne
                  clear hS
                  go_wp2_with (go_at_call 14; go_must (refine (Owner g b a0 (1 + r) (a0 + k) M c _ P.out b0' b1').mono ?_); rw [HS.out]; rintro e w9 ⟨rfl, hb⟩; have HB9 := Aside0.mk (below_step HB.out hb); have P9 := Aside0.mk (P.out.kb hb); clear hb)
                  all_goals
                    go_roundw
                    case rel => exact ⟨k + 1, by omega, by go_num, by rw [show cnt a0 M (k + 1) = cnt a0 M k + 1 by simp only [cnt]; rw [HS.out]; rfl]; go_num, P9, HB9⟩
                    case measure => simp [intOf]; omega
                | false =>
                  have HS := Aside0.mk hS
                  have hge : k0 ≤ k := by
                    rcases Nat.lt_or_ge k k0 with h | h
                    · have := hA0.out k h; rw [hS] at this; exact absurd this (by simp)
                    · exact h
                  clear hS
                  by_cases hke : k = k0
                  · have f1 : ((a0 + (k : Int)) == a0 + (k0 : Int)) = true := beq_iff_eq.mpr (by omega)
                    have f2 : ((k : Int) == (k0 : Int)) = true := beq_iff_eq.mpr (by omega)
                    have f3 : (k == k0) = true := beq_iff_eq.mpr hke
                    have f4 : decide (a0 + (k : Int) < a0 + (k0 : Int)) = false := decide_eq_false (by omega)
                    clear hke
                    go_wp2_with (go_at_call 14; go_must (refine (Owner g b a0 (1 + r) (a0 + k) M c _ P.out b0' b1').mono ?_); rw [HS.out]; rintro e w9 ⟨rfl, hb⟩; have HB9 := Aside0.mk (below_step HB.out hb); have P9 := Aside0.mk (P.out.kb hb); clear hb)
                    go_roundw
                    case rel => exact ⟨k + 1, by omega, by go_num, by rw [show cnt a0 M (k + 1) = cnt a0 M k by simp only [cnt]; rw [HS.out]; rfl], P9, HB9⟩
                    case measure => simp [intOf]; omega
                  · have f1 : ((a0 + (k : Int)) == a0 + (k0 : Int)) = false := beq_eq_false_iff_ne.mpr (by omega)
                    have f2 : ((k : Int) == (k0 : Int)) = false := beq_eq_false_iff_ne.mpr (by omega)
                    have f3 : (k == k0) = false := beq_eq_false_iff_ne.mpr hke
                    have f4 : decide (a0 + (k : Int) < a0 + (k0 : Int)) = false := decide_eq_false (by omega)
                    go_wp2_with (go_at_call 14; go_must (refine (Owner g b a0 (1 + r) (a0 + k) M c _ P.out b0' b1').mono ?_); rw [HS.out]; rintro e w9 ⟨rfl, hb⟩; have HB9 := Aside0.mk (below_step HB.out hb); have P9 := Aside0.mk (P.out.kb hb); clear hb)
                    go_roundw
                    case rel => exact ⟨k + 1, by omega, by go_num, by rw [show cnt a0 M (k + 1) = cnt a0 M k by simp only [cnt]; rw [HS.out]; rfl], P9, HB9⟩
                    case measure => simp [intOf]; omega
              · have HCN := Aside0.mk (show cnt a0 M k = c by rw [V.out.cn]; congr 1; omega)
                have hcb : (c : Int) ≤ 1 + r := by have := HCN.out; omega
                rw [HCN.out]
                clear hcl
                go_wp2_with (first
                  | (go_at_call 9; go_must (refine (Free g b a0 (1 + r) M c _ P.out V.out).mono ?_); rintro e w4 ⟨rfl, hd⟩; replace P := Aside0.mk (P.out.kb (drawn_below hd)); replace HB := Aside0.mk (below_step HB.out (drawn_below hd)); clear hd)
                  | (go_at_call 11; go_must (refine (ListLen g b a0 (1 + r) M c _ P.out V.out).mono ?_); rintro e w5 ⟨ad2, cap2, rfl, hb⟩; replace HB := Aside0.mk (below_step HB.out hb); replace P := Aside0.mk (P.out.kb hb); clear hb))
                go_roundw
                case rel => exact ⟨i + 1, M, c, by omega, by go_num, P, V, HB⟩
                case measure => simp [intOf]; omega
          · replace hA0 := Aside0.mk hA0
            go_loopw [12, 15] (fun v12 v15 wr => ∃ k : Nat, (k : Int) ≤ 1 + r ∧ v15 = .int .i64 (k : Int) ∧ v12 = .int .i64 (cnt a0 M k : Nat) ∧ Aside0 (PoolAt wr g b a0 (1 + r) M c) ∧ Aside0 (Below w.heap.size w wr)) (fun _ v15 _ => (1 + r - intOf v15).toNat)
            case atStart => exact ⟨0, by omega, rfl, rfl, P, HB⟩
            case round =>
              clear P HB HR
              obtain ⟨k, hk, rfl, rfl, P, HB⟩ := hrel
              have hcl := cnt_le a0 M k
              by_cases hlk : (k : Int) < 1 + r
              · have s3 : IntKind.u32.wrap (k : Int) = k := by rw [IntKind.wrap_u32]; omega
                have s4 : IntKind.u32.wrap (a0 + (k : Int)) = a0 + k := by rw [IntKind.wrap_u32]; omega
                have b0' : 0 ≤ a0 + (k : Int) := by omega
                have b1' : a0 + (k : Int) < 4294967296 := by omega
                have HS := Aside0.mk (hA0.out k hlk)
                go_wp2_with (go_at_call 14; go_must (refine (Owner g b a0 (1 + r) (a0 + k) M c _ P.out b0' b1').mono ?_); rw [HS.out]; rintro e w9 ⟨rfl, hb⟩; have HB9 := Aside0.mk (below_step HB.out hb); have P9 := Aside0.mk (P.out.kb hb); clear hb)
                all_goals
                  go_roundw
                  case rel => exact ⟨k + 1, by omega, by go_num, by rw [show cnt a0 M (k + 1) = cnt a0 M k + 1 by simp only [cnt]; rw [HS.out]; rfl]; go_num, P9, HB9⟩
                  case measure => simp [intOf]; omega
              · have HCN := Aside0.mk (show cnt a0 M k = c by rw [V.out.cn]; congr 1; omega)
                have hcb : (c : Int) ≤ 1 + r := by have := HCN.out; omega
                rw [HCN.out]
                clear hcl
                go_wp2_with (first
                  | (go_at_call 9; go_must (refine (Free g b a0 (1 + r) M c _ P.out V.out).mono ?_); rintro e w4 ⟨rfl, hd⟩; replace P := Aside0.mk (P.out.kb (drawn_below hd)); replace HB := Aside0.mk (below_step HB.out (drawn_below hd)); clear hd)
                  | (go_at_call 11; go_must (refine (ListLen g b a0 (1 + r) M c _ P.out V.out).mono ?_); rintro e w5 ⟨ad2, cap2, rfl, hb⟩; replace HB := Aside0.mk (below_step HB.out hb); replace P := Aside0.mk (P.out.kb hb); clear hb))
                go_roundw
                case rel => exact ⟨i + 1, M, c, by omega, by go_num, P, V, HB⟩
                case measure => simp [intOf]; omega
    · go_wp2_with (first
            | (go_at_call 7; go_must (refine (alive _).mono ?_); rintro e w3 ⟨rfl, hb⟩; replace HB := Aside0.mk (below_step HB.out hb); clear hb))
      go_ret
      exact ⟨rfl, HB.out⟩
set_option maxRecDepth 100000 in
set_option maxHeartbeats 2000000 in
theorem PoolCounts_long (a0 a1 : Int) (A2 : Option Addr) (c2 : Nat) (l2 : List S41) (w : World) (hr2 : Kd.C k41 w A2 l2.length l2) (hc2 : l2.length ≤ c2) (hl : halyardlaw26_long.f 300 l2 = some true) :
    Calls Try.prog 4 #[.int .u32 a0, .int .u8 a1, .slice A2 l2.length c2] w (AliveRet w) := by
  have HB := Aside0.mk (Below.refl w.heap.size w)
  have HR := Aside0.mk hr2
  have HL := Aside0.mk hl
  have HC := Aside0.mk hc2
  clear hr2 hl hc2
  go_enter Try.func4, Try.ntmps4
  go_wp2_with (first
    | (go_at_call 13; go_must (refine (halyardlaw26_long.calls 300 A2 c2 l2 true _ HR.out HC.out HL.out).mono ?_); rintro e w1 ⟨rfl, hd⟩; replace HB := Aside0.mk (below_step HB.out (drawn_below hd)); clear hd)
    | (go_at_call 7; go_must (refine (alive _).mono ?_); rintro e w3 ⟨rfl, hb⟩; replace HB := Aside0.mk (below_step HB.out hb); clear hb))
  go_ret
  exact ⟨rfl, HB.out⟩
set_option maxRecDepth 100000 in
set_option maxHeartbeats 2000000 in
theorem PoolCounts_no (a0 a1 : Int) (A2 : Option Addr) (c2 : Nat) (l2 : List S41) (w : World) (_l0 : 0 ≤ a0) (_u0 : a0 ≤ 4294967295) (_l1 : 0 ≤ a1) (_u1 : a1 ≤ 255) (hr2 : Kd.C k41 w A2 l2.length l2) (hc2 : l2.length ≤ c2) (hl : halyardlaw26_long.f 300 l2 = some false)
    (hb : ¬ (1 ≤ a0 ∧ a0 + (1 + a1 % 60) ≤ 4294967296)) :
    Calls Try.prog 4 #[.int .u32 a0, .int .u8 a1, .slice A2 l2.length c2] w (AliveRet w) := by
  obtain ⟨r, hr⟩ : ∃ r, a1 % 60 = r := ⟨_, rfl⟩
  have r0 : 0 ≤ r := by omega
  have r1 : r ≤ 59 := by omega
  have HN := Aside0.mk (show ¬ (1 ≤ (1 + r) ∧ (1 + r) ≤ 1024 ∧ 1 ≤ a0 ∧ a0 + (1 + r) ≤ 4294967296) by rw [← hr]; omega)
  have HB := Aside0.mk (Below.refl w.heap.size w)
  have HR := Aside0.mk hr2
  have HL := Aside0.mk hl
  have HC := Aside0.mk hc2
  clear hr2 hl hc2 hb
  go_enter Try.func4, Try.ntmps4
  go_wp2_with (first
    | (go_at_call 13; go_must (refine (halyardlaw26_long.calls 300 A2 c2 l2 false _ HR.out HC.out HL.out).mono ?_); rintro e w1 ⟨rfl, hd⟩; replace HB := Aside0.mk (below_step HB.out (drawn_below hd)); clear hd)
    | (go_at_call 6; go_must (refine (NewNo a0 (1 + r) _ _l0 (by omega) (by omega) (by omega) HN.out).mono ?_); rintro e w2 ⟨rfl, hd⟩; replace HB := Aside0.mk (below_step HB.out (drawn_below hd)); clear hd)
    | (go_at_call 7; go_must (refine (alive _).mono ?_); rintro e w3 ⟨rfl, hb⟩; replace HB := Aside0.mk (below_step HB.out hb); clear hb))
  go_ret
  exact ⟨rfl, HB.out⟩
end Go.Proofs.YtjpnebhhpogebaaHPool
