-- WRITTEN by wip/tools/hprint.py: the kit's print.py run over this translation, with functions proved by hand laid in. Lean checks it.
import Derived.Test.YtdojpjiiihmdoaaPG07x0
import Derived.Test.YtdojpjiiihmdoaaPG07x1
import Derived.Test.YtdojpjiiihmdoaaPG07x2
namespace Go.Proofs.Ytdojpjiiihmdoaa.PG07
open Go.RowKit Go.Proofs.YtdojpjiiihmdoaaW.PrintWords Go.Proofs.YtdojpjiiihmdoaaW.PrintLast Go.Proofs.YtdojpjiiihmdoaaW.PrintMore Go.Proofs.YtdojpjiiihmdoaaHW
attribute [local go_sem] max2_int min2_int max_two min_two max_three min_three max_four min_four   -- for this text's walks alone
set_option linter.unusedVariables false
set_option linter.unusedSimpArgs false

/-! ### packet_Get: function 16 -/
set_option maxHeartbeats 400000 in
theorem packet_Get1.calls (e0 : Int) (w : World) :
    Calls Try.prog 60 #[.int .i64 e0] w fun e w' => e = .returned (.tuple #[.agg #[.int .u8 0, .int .u8 0, .string (⟨#[]⟩ : ByteArray)], .int .i64 0, .int .i64 e0]) ∧ w' = (w.alloc (Obj.cells #[Value.int IntKind.u8 0, Value.int IntKind.u8 0, Value.string { data := #[] }] 23)) := by
  have huP := Try.underlying23
  go_enter Try.func60, Try.ntmps60
  go_wp2
  exact bodyPost_ret (v := .tuple #[.agg #[.int .u8 0, .int .u8 0, .string (⟨#[]⟩ : ByteArray)], .int .i64 0, .int .i64 e0]) (by simp [results, Try.results60, go_sem]) rfl ⟨rfl, rfl⟩

def packet_Get.f (a0 : ByteArray) : Option (Int × Int × ByteArray × Int × Int) :=
  if (a0.size : Int) < 4 then some (0, 0, ⟨#[]⟩, 0, 6) else
  if 256 * bt a0 2 + bt a0 3 < 4 then some (0, 0, ⟨#[]⟩, 0, 7) else
  if 256 * bt a0 2 + bt a0 3 > (a0.size : Int) then some (0, 0, ⟨#[]⟩, 0, 6) else
  if 256 * bt a0 2 + bt a0 3 > 1500 then some (0, 0, ⟨#[]⟩, 0, 5) else
  some (bt a0 0, bt a0 1, a0.extract 4 (256 * bt a0 2 + bt a0 3).toNat, wrap64 ((a0.size : Int) - (256 * bt a0 2 + bt a0 3)), 0)

theorem octet_Get16_24 (a0 : ByteArray) (h : 4 ≤ a0.size) : octet_Get16.f (a0.extract 2 4) = some (256 * bt a0 2 + bt a0 3, 0) := by
  have hs : (a0.extract 2 4).size = 2 := by rw [ByteArray.size_extract]; omega
  have e0 : bt (a0.extract 2 4) 0 = bt a0 2 := by
    unfold bt
    rw [dif_pos (by rw [hs]; decide), dif_pos (show (2 : Int).toNat < a0.size by simp; omega)]
    simp [ByteArray.getElem_extract]
  have e1 : bt (a0.extract 2 4) 1 = bt a0 3 := by
    unfold bt
    rw [dif_pos (by rw [hs]; decide), dif_pos (show (3 : Int).toNat < a0.size by simp; omega)]
    simp [ByteArray.getElem_extract]
  unfold octet_Get16.f
  rw [hs, if_neg (by omega), if_neg (by omega), e0, e1]
theorem packet_Get.f_eq (a0 : ByteArray) (n : Int) (hn : 256 * bt a0 2 + bt a0 3 = n) : packet_Get.f a0 =
  if (a0.size : Int) < 4 then some (0, 0, ⟨#[]⟩, 0, 6) else
  if n < 4 then some (0, 0, ⟨#[]⟩, 0, 7) else
  if n > (a0.size : Int) then some (0, 0, ⟨#[]⟩, 0, 6) else
  if n > 1500 then some (0, 0, ⟨#[]⟩, 0, 5) else
  some (bt a0 0, bt a0 1, a0.extract 4 n.toNat, wrap64 ((a0.size : Int) - n), 0) := by subst hn; rfl

set_option maxRecDepth 100000 in
set_option maxHeartbeats 400000 in
theorem packet_Get.calls (a0 : ByteArray) (r1 r2 : Int) (r3 : ByteArray) (r4 r5 : Int) (w : World) (h : packet_Get.f a0 = some (r1, r2, r3, r4, r5)) :
    Calls Try.prog 16 #[.string a0] w fun e w' => e = .returned (.tuple #[.agg #[.int .u8 r1, .int .u8 r2, .string r3], .int .i64 r4, .int .i64 r5]) ∧ Below w.heap.size w w' := by
  have huP := Try.underlying23
  have HB := Aside0.mk (Below.refl w.heap.size w)
  obtain ⟨n, hn⟩ : ∃ n, 256 * bt a0 2 + bt a0 3 = n := ⟨_, rfl⟩
  rw [packet_Get.f_eq a0 n hn] at h
  have hn0 : 0 ≤ n := by have := bt_range a0 2; have := bt_range a0 3; omega
  have hn1 : n ≤ 65535 := by have := bt_range a0 2; have := bt_range a0 3; omega
  by_cases c1 : (a0.size : Int) < 4
  · rw [if_pos c1] at h
    simp only [Option.some.injEq, Prod.mk.injEq] at h
    obtain ⟨rfl, rfl, rfl, rfl, rfl⟩ := h
    clear hn
    have c1b : decide (a0.size < 4) = true := decide_eq_true (by omega)
    go_enter Try.func16, Try.ntmps16
    go_wp2_with (go_at_call 60; refine (packet_Get1.calls _ _).mono ?_; rintro e w' ⟨rfl, rfl⟩)
    exact bodyPost_ret (v := .tuple #[.agg #[.int .u8 0, .int .u8 0, .string (⟨#[]⟩ : ByteArray)], .int .i64 0, .int .i64 6]) (by simp [results, Try.results16, go_sem]) rfl ⟨rfl, by repeat (first | (with_reducible first | exact HB.out | apply below_alloc | apply pw_below_drewN | apply below_drew1 | refine Below.setCell ?_ (by simp) _))⟩
  rw [if_neg c1] at h
  have c1b : decide (a0.size < 4) = false := decide_eq_false (by omega)
  have c24 : ¬ a0.size < 4 := by omega
  have HG := octet_Get16_24 a0 (by omega)
  rw [hn] at HG
  replace HG := Aside0.mk HG
  clear hn
  by_cases c2 : n < 4
  · rw [if_pos c2] at h
    simp only [Option.some.injEq, Prod.mk.injEq] at h
    obtain ⟨rfl, rfl, rfl, rfl, rfl⟩ := h
    go_enter Try.func16, Try.ntmps16
    go_wp2_with (first | (go_at_call 60; refine (packet_Get1.calls _ _).mono ?_; rintro e w' ⟨rfl, rfl⟩) | (go_at_call 26; refine (octet_Get16.calls _ _ _ _ HG.out).mono ?_; rintro e w' ⟨rfl, ⟨nd, rfl⟩⟩))
    exact bodyPost_ret (v := .tuple #[.agg #[.int .u8 0, .int .u8 0, .string (⟨#[]⟩ : ByteArray)], .int .i64 0, .int .i64 7]) (by simp [results, Try.results16, go_sem]) rfl ⟨rfl, by repeat (first | (with_reducible first | exact HB.out | apply below_alloc | apply pw_below_drewN | apply below_drew1 | refine Below.setCell ?_ (by simp) _))⟩
  rw [if_neg c2] at h
  by_cases c3 : n > (a0.size : Int)
  · rw [if_pos c3] at h
    simp only [Option.some.injEq, Prod.mk.injEq] at h
    obtain ⟨rfl, rfl, rfl, rfl, rfl⟩ := h
    go_enter Try.func16, Try.ntmps16
    go_wp2_with (first | (go_at_call 60; refine (packet_Get1.calls _ _).mono ?_; rintro e w' ⟨rfl, rfl⟩) | (go_at_call 26; refine (octet_Get16.calls _ _ _ _ HG.out).mono ?_; rintro e w' ⟨rfl, ⟨nd, rfl⟩⟩))
    exact bodyPost_ret (v := .tuple #[.agg #[.int .u8 0, .int .u8 0, .string (⟨#[]⟩ : ByteArray)], .int .i64 0, .int .i64 6]) (by simp [results, Try.results16, go_sem]) rfl ⟨rfl, by repeat (first | (with_reducible first | exact HB.out | apply below_alloc | apply pw_below_drewN | apply below_drew1 | refine Below.setCell ?_ (by simp) _))⟩
  rw [if_neg c3] at h
  by_cases c4 : n > 1500
  · rw [if_pos c4] at h
    simp only [Option.some.injEq, Prod.mk.injEq] at h
    obtain ⟨rfl, rfl, rfl, rfl, rfl⟩ := h
    go_enter Try.func16, Try.ntmps16
    go_wp2_with (first | (go_at_call 60; refine (packet_Get1.calls _ _).mono ?_; rintro e w' ⟨rfl, rfl⟩) | (go_at_call 26; refine (octet_Get16.calls _ _ _ _ HG.out).mono ?_; rintro e w' ⟨rfl, ⟨nd, rfl⟩⟩))
    exact bodyPost_ret (v := .tuple #[.agg #[.int .u8 0, .int .u8 0, .string (⟨#[]⟩ : ByteArray)], .int .i64 0, .int .i64 5]) (by simp [results, Try.results16, go_sem]) rfl ⟨rfl, by repeat (first | (with_reducible first | exact HB.out | apply below_alloc | apply pw_below_drewN | apply below_drew1 | refine Below.setCell ?_ (by simp) _))⟩
  rw [if_neg c4] at h
  simp only [Option.some.injEq, Prod.mk.injEq] at h
  obtain ⟨rfl, rfl, rfl, rfl, rfl⟩ := h
  go_enter Try.func16, Try.ntmps16
  go_wp2_with (first | (go_at_call 60; refine (packet_Get1.calls _ _).mono ?_; rintro e w' ⟨rfl, rfl⟩) | (go_at_call 26; refine (octet_Get16.calls _ _ _ _ HG.out).mono ?_; rintro e w' ⟨rfl, ⟨nd, rfl⟩⟩))
  have i0 : 0 < a0.size := by omega
  have i1 : (1:Int) < (a0.size : Int) := by omega
  have i4 : (4:Int) ≤ n := by omega
  have i5 : n ≤ (a0.size : Int) := by omega
  go_region
  go_wp2
  refine bodyPost_ret (v := .tuple #[.agg #[.int .u8 (bt a0 0), .int .u8 (bt a0 1), .string (a0.extract 4 n.toNat)], .int .i64 (wrap64 ((a0.size : Int) - n)), .int .i64 0]) ?_ rfl ⟨rfl, by repeat (first | (with_reducible first | exact HB.out | apply below_alloc | apply pw_below_drewN | apply below_drew1 | refine Below.setCell ?_ (by simp) _))⟩
  rw [← bt_at a0 0 (by simpa using i0), ← bt_at a0 1 (by simp; omega)]
  simp [results, Try.results16, go_sem]


/-! ### packet_Trim: function 17 -/
def packet_Trim.f (a0 : ByteArray) (a1 : Int) : Option (ByteArray × Int) := if a1 < 0 then (some ((⟨#[]⟩ : ByteArray), 2)) else (if 0 ≤ (mn a1 (a0.size : Int)) then (if (mn a1 (a0.size : Int)) ≤ (a0.size : Int) then (some (a0.extract 0 ((mn a1 (a0.size : Int)) : Int).toNat, 0)) else (none)) else (none))
set_option maxHeartbeats 8000000 in
set_option maxRecDepth 100000 in
theorem packet_Trim.calls (a0 : ByteArray) (a1 : Int) (r1 : ByteArray) (r2 : Int) (w : World) (h : packet_Trim.f a0 a1 = some (r1, r2)) :
    Calls Try.prog 17 #[.string a0, .int .i64 a1] w fun e w' => e = .returned (.tuple #[.string r1, .int .i64 r2]) ∧ Below w.heap.size w w' := by
  have HB := Aside0.mk (Below.refl w.heap.size w)
  have H : (if a1 < 0 then (some ((⟨#[]⟩ : ByteArray), 2)) else (if 0 ≤ (mn a1 (a0.size : Int)) then (if (mn a1 (a0.size : Int)) ≤ (a0.size : Int) then (some (a0.extract 0 ((mn a1 (a0.size : Int)) : Int).toNat, 0)) else (none)) else (none))) = some (r1, r2) := h
  clear h
  by_cases c3 : a1 < 0
  · rw [if_pos c3] at H
    have c3b0 : decide (a1 < 0) = true := decide_eq_true c3
    clear c3
    simp only [Option.some.injEq, Prod.mk.injEq] at H
    obtain ⟨rfl, rfl⟩ := H
    go_enter Try.func17, Try.ntmps17
    go_wp2
    go_ret2
    exact ⟨by first | rfl | (simp [errW_none, errW_some] <;> rfl) | (simp [*, errW_none, errW_some] <;> rfl), by repeat (first | (with_reducible first | exact HB.out | apply below_alloc | apply pw_below_drewN | apply below_drew1) | exact HB.out)⟩
  · rw [if_neg c3] at H
    have c3b0 : decide (a1 < 0) = false := decide_eq_false c3
    clear c3
    obtain ⟨ji4, hji4⟩ : ∃ j_ : Int, (mn a1 (a0.size : Int)) = j_ := ⟨_, rfl⟩
    replace H : (if 0 ≤ (ji4) then (if (ji4) ≤ (a0.size : Int) then (some (a0.extract 0 ((ji4) : Int).toNat, 0)) else (none)) else (none)) = some (r1, r2) := by first | (rw [hji4] at H; exact H) | (simp only [hji4] at H ⊢; exact H)
    have hji4_ : (if (a0.size : Int) < a1 then (a0.size : Int) else a1) = ji4 := hji4
    by_cases c5 : 0 ≤ (ji4)
    · rw [if_pos c5] at H
      have c5b0 := eq_true c5
      have c5b1 : decide (0 ≤ (ji4)) = true := decide_eq_true c5
      clear c5
      by_cases c6 : (ji4) ≤ (a0.size : Int)
      · rw [if_pos c6] at H
        have c6b0 := eq_true c6
        have c6b1 : decide ((ji4) ≤ (a0.size : Int)) = true := decide_eq_true c6
        clear c6
        simp only [Option.some.injEq, Prod.mk.injEq] at H
        obtain ⟨rfl, rfl⟩ := H
        go_enter Try.func17, Try.ntmps17
        go_wp2
        go_ret2
        exact ⟨by first | rfl | (simp [errW_none, errW_some] <;> rfl) | (simp only [← hji4]; first | rfl | (simp [errW_none, errW_some] <;> rfl)) | (simp [*, errW_none, errW_some] <;> rfl), by repeat (first | (with_reducible first | exact HB.out | apply below_alloc | apply pw_below_drewN | apply below_drew1) | exact HB.out)⟩
      · rw [if_neg c6] at H
        exact absurd H (by simp)
    · rw [if_neg c5] at H
      exact absurd H (by simp)

/-! ### halyardlaw07_alive: function 14 -/
def halyardlaw07_alive.f : Option Bool := some true
theorem halyardlaw07_alive.put : packet_Put.f 9 1 ⟨#[97, 98]⟩ = some (⟨#[9, 1, 0, 6, 97, 98]⟩, 0) := by decide +kernel
theorem halyardlaw07_alive.get1 : packet_Get.f ⟨#[9, 1, 0, 4, 0]⟩ = some (9, 1, ⟨#[]⟩, 1, 0) := by decide +kernel
theorem halyardlaw07_alive.get2 : packet_Get.f ⟨#[9, 1, 0, 5]⟩ = some (0, 0, ⟨#[]⟩, 0, 6) := by decide +kernel
theorem halyardlaw07_alive.get3 : packet_Get.f ⟨#[9, 1, 0, 3, 0]⟩ = some (0, 0, ⟨#[]⟩, 0, 7) := by decide +kernel
theorem halyardlaw07_alive.trim : packet_Trim.f ⟨#[97]⟩ (-1) = some (⟨#[]⟩, 2) := by decide +kernel
set_option maxRecDepth 100000 in
set_option maxHeartbeats 400000 in
theorem halyardlaw07_alive.calls (r : Bool) (w : World) (h : halyardlaw07_alive.f = some r) :
    Calls Try.prog 14 #[] w fun e w' => e = .returned (.bool r) ∧ Below w.heap.size w w' := by
  obtain rfl := Option.some.inj h
  have huP := Try.underlying23
  have HB := Aside0.mk (Below.refl w.heap.size w)
  go_enter Try.func14, Try.ntmps14
  go_wp2_with (first | (go_at_call 15; (with_reducible refine (packet_Put.calls _ _ _ _ _ _  halyardlaw07_alive.put).mono ?_); rintro e w1 ⟨rfl, hb1⟩) | (go_at_call 16; (with_reducible refine (packet_Get.calls _ _ _ _ _ _ _  halyardlaw07_alive.get1).mono ?_); rintro e w2 ⟨rfl, hb2⟩) | (go_at_call 16; (with_reducible refine (packet_Get.calls _ _ _ _ _ _ _  halyardlaw07_alive.get2).mono ?_); rintro e w3 ⟨rfl, hb3⟩) | (go_at_call 16; (with_reducible refine (packet_Get.calls _ _ _ _ _ _ _  halyardlaw07_alive.get3).mono ?_); rintro e w4 ⟨rfl, hb4⟩) | (go_at_call 17; (with_reducible refine (packet_Trim.calls _ _ _ _ _  halyardlaw07_alive.trim).mono ?_); rintro e w5 ⟨rfl, hb5⟩; have BK := hw_below (blk_alloc (hw_below (blk_alloc (hw_below (blk_new w2 _) hb3) _) hb4) _) hb5; have k0 := blk_cell BK 0; have k1 := blk_cell BK 1; have k2 := blk_cell BK 2; replace BK := Aside0.mk BK))
  go_ret
  exact ⟨rfl, below_step (below_alloc (below_step (below_alloc (below_step (below_alloc (below_step hb1 hb2) _) hb3) _) hb4) _) hb5⟩


-- NOT PRINTED: function 3 (halyardlaw07_PacketBack)

-- NOT PRINTED: function 4 (halyardlaw07_PacketCuts)

-- NOT PRINTED: function 5 (halyardlaw07_PacketTrims)

end Go.Proofs.Ytdojpjiiihmdoaa.PG07
