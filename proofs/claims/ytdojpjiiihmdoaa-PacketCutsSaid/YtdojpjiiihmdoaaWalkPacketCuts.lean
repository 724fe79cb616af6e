/- The walk of the law halyard/halyardlaw07.PacketCuts: the call returns true, whatever the input; no condition. -/
import Derived.Test.YtdojpjiiihmdoaaPG07x0
import Derived.Test.YtdojpjiiihmdoaaPG07x1
import Derived.Test.YtdojpjiiihmdoaaPG07x2
import Derived.Test.YtdojpjiiihmdoaaPG07x3
import Derived.Test.YtdojpjiiihmdoaaPG07x4
import Derived.Test.YtdojpjiiihmdoaaPG07x5
import Derived.Test.YtdojpjiiihmdoaaPG07x6
import Derived.Test.YtdojpjiiihmdoaaHW
namespace Go.Proofs.Ytdojpjiiihmdoaa.PG07
open Go.RowKit Go.Proofs.YtdojpjiiihmdoaaW.PrintWords Go.Proofs.YtdojpjiiihmdoaaW.PrintLast Go.Proofs.YtdojpjiiihmdoaaW.PrintMore Go.Proofs.YtdojpjiiihmdoaaHW
attribute [local go_sem] max2_int min2_int max_two min_two max_three min_three max_four min_four
set_option linter.unusedVariables false
set_option linter.unusedSimpArgs false
theorem halyardlaw07_PacketCuts.get_put (c i : Int) (d more : ByteArray) (c0 : 0 ≤ c) (c1 : c ≤ 255) (i0 : 0 ≤ i) (i1 : i ≤ 255) (hd : d.size ≤ 1496) (hm : more.size ≤ 16384) :
    ∃ a, packet_Put.f c i d = some (a, 0) ∧ a.size = d.size + 4 ∧ packet_Get.f (a ++ more) = some (c, i, d, (more.size : Int), 0) := by
  obtain ⟨n, hn⟩ : ∃ n : Int, n = (d.size : Int) + 4 := ⟨_, rfl⟩
  obtain ⟨hd4, hhd⟩ : ∃ hd4, hd4 = strOfNums [c, i, n / 256, n % 256] := ⟨_, rfl⟩
  have h4 : hd4.size = 4 := by rw [hhd, hw_strs]; rfl
  refine ⟨hd4 ++ d, ?_, by rw [ByteArray.size_append, h4]; omega, ?_⟩
  · unfold packet_Put.f
    rw [if_neg (by omega), ← hn, hhd]
  · have e : ∀ k : Int, 0 ≤ k → k < 4 → bt (hd4 ++ d ++ more) k = bt hd4 k := fun k h0 h1 => by
      rw [hw_bt_l _ _ _ (by rw [ByteArray.size_append]; omega), hw_bt_l _ _ _ (by omega)]
    have v0 : bt hd4 0 = c := by rw [hhd, hw_bt_n _ 0 (by simp) (by simpa using c0) (by simpa using c1)]; rfl
    have v1 : bt hd4 1 = i := by rw [hhd, hw_bt_n _ 1 (by simp) (by simpa using i0) (by simpa using i1)]; rfl
    have v2 : bt hd4 2 = n / 256 := by rw [hhd, hw_bt_n _ 2 (by simp) (by show 0 ≤ n / 256; omega) (by show n / 256 ≤ 255; omega)]; rfl
    have v3 : bt hd4 3 = n % 256 := by rw [hhd, hw_bt_n _ 3 (by simp) (by show 0 ≤ n % 256; omega) (by show n % 256 ≤ 255; omega)]; rfl
    have hs : ((hd4 ++ d ++ more).size : Int) = n + more.size := by rw [ByteArray.size_append, ByteArray.size_append, h4]; omega
    have hx : (hd4 ++ d ++ more).extract 4 n.toNat = d := by
      have hs' : (hd4 ++ d ++ more).size = 4 + d.size + more.size := by rw [ByteArray.size_append, ByteArray.size_append, h4]
      have hz : ((hd4 ++ d ++ more).extract 4 n.toNat).size = d.size := by rw [ByteArray.size_extract, hs']; omega
      refine hw_ext _ _ hz (fun k hk => ?_)
      rw [hz] at hk
      rw [hw_bt_x _ _ _ _ (by rw [hz]; simpa using hk), hw_bt_l _ _ _ (by rw [ByteArray.size_append, h4]; simp only [Int.toNat_natCast]; omega), hw_bt_r _ _ _ (by rw [h4]; simp only [Int.toNat_natCast]; omega), h4]
      congr 1
      simp only [Int.toNat_natCast]
      omega
    unfold packet_Get.f
    rw [e 0 (by omega) (by omega), e 1 (by omega) (by omega), e 2 (by omega) (by omega), e 3 (by omega) (by omega), v0, v1, v2, v3, hs, show 256 * (n / 256) + n % 256 = n from by omega]
    rw [if_neg (by omega), if_neg (by omega), if_neg (by omega), if_neg (by omega), hx, show wrap64 (n + (more.size : Int) - n) = more.size from by unfold wrap64; omega]

theorem halyardlaw07_PacketCuts.cut (c i : Int) (d a : ByteArray) (hd : d.size ≤ 1496) (h : packet_Put.f c i d = some (a, 0)) (k : Nat) (hk : k < d.size + 4) :
    packet_Get.f (a.extract 0 k) = some (0, 0, ⟨#[]⟩, 0, 6) := by
  unfold packet_Put.f at h
  rw [if_neg (by omega)] at h
  simp only [Option.some.injEq, Prod.mk.injEq, and_true] at h
  obtain ⟨n, hn⟩ : ∃ n : Int, n = (d.size : Int) + 4 := ⟨_, rfl⟩
  rw [← hn] at h
  obtain ⟨hd4, hhd⟩ : ∃ hd4, hd4 = strOfNums [c, i, n / 256, n % 256] := ⟨_, rfl⟩
  have h4 : hd4.size = 4 := by rw [hhd, hw_strs]; rfl
  rw [← hhd] at h
  have has : a.size = d.size + 4 := by rw [← h, ByteArray.size_append, h4]; omega
  have hks : (a.extract 0 k).size = k := by rw [ByteArray.size_extract]; omega
  unfold packet_Get.f
  by_cases c1 : k < 4
  · rw [if_pos (by rw [hks]; omega)]
  · have v2 : bt hd4 2 = n / 256 := by rw [hhd, hw_bt_n _ 2 (by simp) (by show 0 ≤ n / 256; omega) (by show n / 256 ≤ 255; omega)]; rfl
    have v3 : bt hd4 3 = n % 256 := by rw [hhd, hw_bt_n _ 3 (by simp) (by show 0 ≤ n % 256; omega) (by show n % 256 ≤ 255; omega)]; rfl
    have e2 : bt (a.extract 0 k) 2 = n / 256 := by
      rw [hw_bt_x _ _ _ _ (by rw [hks]; simp; omega), ← h, ← v2, hw_bt_l _ _ _ (by rw [h4]; simp)]
      rfl
    have e3 : bt (a.extract 0 k) 3 = n % 256 := by
      rw [hw_bt_x _ _ _ _ (by rw [hks]; simp; omega), ← h, ← v3, hw_bt_l _ _ _ (by rw [h4]; simp)]
      rfl
    rw [e2, e3, hks, show 256 * (n / 256) + n % 256 = n from by omega, if_neg (by omega), if_neg (by omega), if_pos (by omega)]
/-- Two packets with the same bytes are the same. -/
theorem halyardlaw07_PacketCuts.inj (c i c' i' : Int) (d d' a : ByteArray) (c0 : 0 ≤ c) (c1 : c ≤ 255) (i0 : 0 ≤ i) (i1 : i ≤ 255) (hd : d.size ≤ 1496) (c0' : 0 ≤ c') (c1' : c' ≤ 255) (i0' : 0 ≤ i') (i1' : i' ≤ 255) (hd' : d'.size ≤ 1496)
    (h : packet_Put.f c i d = some (a, 0)) (h' : packet_Put.f c' i' d' = some (a, 0)) : c = c' ∧ i = i' ∧ d = d' := by
  obtain ⟨b, hb, _, hg⟩ := halyardlaw07_PacketCuts.get_put c i d ⟨#[]⟩ c0 c1 i0 i1 hd (by decide)
  obtain ⟨b', hb', _, hg'⟩ := halyardlaw07_PacketCuts.get_put c' i' d' ⟨#[]⟩ c0' c1' i0' i1' hd' (by decide)
  rw [h] at hb
  rw [h'] at hb'
  simp only [Option.some.injEq, Prod.mk.injEq, and_true] at hb hb'
  subst hb hb'
  rw [hg] at hg'
  simp only [Option.some.injEq, Prod.mk.injEq] at hg'
  exact ⟨hg'.1, hg'.2.1, hg'.2.2.1⟩
set_option maxRecDepth 100000 in
set_option maxHeartbeats 1000000 in
theorem halyardlaw07_PacketCuts.run (a0_0 a0_1 : Int) (a0_2 : ByteArray) (a1_0 a1_1 : Int) (a1_2 : ByteArray) (a2 : Int) (w : World) (_f0 : 0 ≤ a0_0) (_f1 : a0_0 ≤ 255) (_f2 : 0 ≤ a0_1) (_f3 : a0_1 ≤ 255) (_z0 : a0_2.size ≤ 140737488351232)
    (_e0 : 0 ≤ a1_0) (_e1 : a1_0 ≤ 255) (_e2 : 0 ≤ a1_1) (_e3 : a1_1 ≤ 255) (_z1 : a1_2.size ≤ 140737488351232) (_g0 : 0 ≤ a2) (_g1 : a2 ≤ 65535) :
    Calls Try.prog 4 #[.agg #[.int .u8 a0_0, .int .u8 a0_1, .string a0_2], .agg #[.int .u8 a1_0, .int .u8 a1_1, .string a1_2], .int .u16 a2] w fun e w' => e = .returned (.bool true) ∧ Below w.heap.size w w' := by
  have huP := Try.underlying23
  have HB := Aside0.mk (Below.refl w.heap.size w)
  have hw0 : wrap64 ((a0_2.size : Int) + (a1_2.size : Int)) = (a0_2.size : Int) + (a1_2.size : Int) := by unfold wrap64; omega
  by_cases c1 : 8192 < (a0_2.size : Int) + (a1_2.size : Int)
  · clear _z0 _z1
    go_enter Try.func4, Try.ntmps4
    go_wp2_with (go_at_call 14; (with_reducible refine (halyardlaw07_alive.calls _ _ rfl).mono ?_); rintro e w1 ⟨rfl, hb1⟩; replace HB := Aside0.mk (below_step (by repeat (first | (with_reducible first | exact HB.out | apply below_alloc | apply pw_below_drewN | apply below_drew1 | apply below_drew) | (refine Below.setCell ?_ (by simp; omega) _))) hb1))
    go_ret
    exact ⟨rfl, by repeat (first | (with_reducible first | exact HB.out | apply below_alloc | apply pw_below_drewN | apply below_drew1 | apply below_drew) | (refine Below.setCell ?_ (by simp; omega) _))⟩
  have c1' : (a0_2.size : Int) + (a1_2.size : Int) ≤ 8192 := by omega
  clear c1
  by_cases c2 : 1496 < a0_2.size
  · have HP := Aside0.mk (show packet_Put.f a0_0 a0_1 a0_2 = some (⟨#[]⟩, 5) by unfold packet_Put.f; rw [if_pos (by omega)])
    obtain ⟨q, f, hq⟩ : ∃ q f, packet_Put.f a1_0 a1_1 a1_2 = some (q, f) := by
      unfold packet_Put.f
      split
      all_goals exact ⟨_, _, rfl⟩
    have HQ := Aside0.mk hq
    clear hq
    have tok1 : True := trivial
    have tok2 : True := trivial
    have tok3 : True := trivial
    go_enter Try.func4, Try.ntmps4
    go_wp2_with (first | (go_at_call 15; have t_ := tok1; clear t_; (with_reducible refine (packet_Put.calls _ _ _ _ _ _ HP.out).mono ?_); rintro e w1 ⟨rfl, hb1⟩; have n_ := Aside0.mk (show w1.heap[w.heap.size]? = some (.cells #[.int .u8 a0_0, .int .u8 a0_1, .string a0_2] 23 (0, 0)) from hw_below (by repeat (first | exact BKp.out | exact blk_new _ _ | (refine hw_at ?_ _; simp; done) | refine blk_drewN ?_ _ | refine blk_drew ?_ | refine blk_alloc ?_ _)) hb1); have BKp := n_; clear n_; have kp0 := blk_cell BKp.out 0; have kp1 := blk_cell BKp.out 1; have kp2 := blk_cell BKp.out 2; (try simp only [List.getElem?_toArray, List.getElem?_cons_zero, List.getElem?_cons_succ] at kp0 kp1 kp2); have zp := blk_lt BKp.out; have n_ := Aside0.mk (show w1.heap[(w.heap.size + 1)]? = some (.cells #[.int .u8 a1_0, .int .u8 a1_1, .string a1_2] 23 (0, 0)) from hw_below (by repeat (first | exact BKq.out | exact blk_new _ _ | (refine hw_at ?_ _; simp; done) | refine blk_drewN ?_ _ | refine blk_drew ?_ | refine blk_alloc ?_ _)) hb1); have BKq := n_; clear n_; have kq0 := blk_cell BKq.out 0; have kq1 := blk_cell BKq.out 1; have kq2 := blk_cell BKq.out 2; (try simp only [List.getElem?_toArray, List.getElem?_cons_zero, List.getElem?_cons_succ] at kq0 kq1 kq2); have zq := blk_lt BKq.out; replace HB := Aside0.mk (below_step (by repeat (first | (with_reducible first | exact HB.out | apply below_alloc | apply pw_below_drewN | apply below_drew1 | apply below_drew) | (refine Below.setCell ?_ (by simp; omega) _))) hb1); clear hb1; clear tok1) | (go_at_call 15; have t_ := tok2; clear t_; (with_reducible refine (packet_Put.calls _ _ _ _ _ _ HQ.out).mono ?_); rintro e w2 ⟨rfl, hb2⟩; replace HB := Aside0.mk (below_step (by repeat (first | (with_reducible first | exact HB.out | apply below_alloc | apply pw_below_drewN | apply below_drew1 | apply below_drew) | (refine Below.setCell ?_ (by simp; omega) _))) hb2); clear hb2; clear tok2) | (go_at_call 14; have t_ := tok3; clear t_; (with_reducible refine (halyardlaw07_alive.calls _ _ rfl).mono ?_); rintro e w3 ⟨rfl, hb3⟩; replace HB := Aside0.mk (below_step (by repeat (first | (with_reducible first | exact HB.out | apply below_alloc | apply pw_below_drewN | apply below_drew1 | apply below_drew) | (refine Below.setCell ?_ (by simp; omega) _))) hb3); clear hb3; clear tok3))
    go_ret
    exact ⟨rfl, by repeat (first | (with_reducible first | exact HB.out | apply below_alloc | apply pw_below_drewN | apply below_drew1 | apply below_drew) | (refine Below.setCell ?_ (by simp; omega) _))⟩
  obtain ⟨a, hp, has, -⟩ := halyardlaw07_PacketCuts.get_put a0_0 a0_1 a0_2 ⟨#[]⟩ _f0 _f1 _f2 _f3 (by omega) (by decide)
  have HP := Aside0.mk hp
  by_cases c3 : 1496 < a1_2.size
  · have HQ := Aside0.mk (show packet_Put.f a1_0 a1_1 a1_2 = some (⟨#[]⟩, 5) by unfold packet_Put.f; rw [if_pos (by omega)])
    have hE := Aside0.mk has
    clear hp has
    have tok1 : True := trivial
    have tok2 : True := trivial
    have tok3 : True := trivial
    go_enter Try.func4, Try.ntmps4
    go_wp2_with (first | (go_at_call 15; have t_ := tok1; clear t_; (with_reducible refine (packet_Put.calls _ _ _ _ _ _ HP.out).mono ?_); rintro e w1 ⟨rfl, hb1⟩; have n_ := Aside0.mk (show w1.heap[w.heap.size]? = some (.cells #[.int .u8 a0_0, .int .u8 a0_1, .string a0_2] 23 (0, 0)) from hw_below (by repeat (first | exact BKp.out | exact blk_new _ _ | (refine hw_at ?_ _; simp; done) | refine blk_drewN ?_ _ | refine blk_drew ?_ | refine blk_alloc ?_ _)) hb1); have BKp := n_; clear n_; have kp0 := blk_cell BKp.out 0; have kp1 := blk_cell BKp.out 1; have kp2 := blk_cell BKp.out 2; (try simp only [List.getElem?_toArray, List.getElem?_cons_zero, List.getElem?_cons_succ] at kp0 kp1 kp2); have zp := blk_lt BKp.out; have n_ := Aside0.mk (show w1.heap[(w.heap.size + 1)]? = some (.cells #[.int .u8 a1_0, .int .u8 a1_1, .string a1_2] 23 (0, 0)) from hw_below (by repeat (first | exact BKq.out | exact blk_new _ _ | (refine hw_at ?_ _; simp; done) | refine blk_drewN ?_ _ | refine blk_drew ?_ | refine blk_alloc ?_ _)) hb1); have BKq := n_; clear n_; have kq0 := blk_cell BKq.out 0; have kq1 := blk_cell BKq.out 1; have kq2 := blk_cell BKq.out 2; (try simp only [List.getElem?_toArray, List.getElem?_cons_zero, List.getElem?_cons_succ] at kq0 kq1 kq2); have zq := blk_lt BKq.out; replace HB := Aside0.mk (below_step (by repeat (first | (with_reducible first | exact HB.out | apply below_alloc | apply pw_below_drewN | apply below_drew1 | apply below_drew) | (refine Below.setCell ?_ (by simp; omega) _))) hb1); clear hb1; clear tok1) | (go_at_call 15; have t_ := tok2; clear t_; (with_reducible refine (packet_Put.calls _ _ _ _ _ _ HQ.out).mono ?_); rintro e w2 ⟨rfl, hb2⟩; replace HB := Aside0.mk (below_step (by repeat (first | (with_reducible first | exact HB.out | apply below_alloc | apply pw_below_drewN | apply below_drew1 | apply below_drew) | (refine Below.setCell ?_ (by simp; omega) _))) hb2); clear hb2; clear tok2) | (go_at_call 14; have t_ := tok3; clear t_; (with_reducible refine (halyardlaw07_alive.calls _ _ rfl).mono ?_); rintro e w3 ⟨rfl, hb3⟩; replace HB := Aside0.mk (below_step (by repeat (first | (with_reducible first | exact HB.out | apply below_alloc | apply pw_below_drewN | apply below_drew1 | apply below_drew) | (refine Below.setCell ?_ (by simp; omega) _))) hb3); clear hb3; clear tok3))
    go_ret
    exact ⟨rfl, by repeat (first | (with_reducible first | exact HB.out | apply below_alloc | apply pw_below_drewN | apply below_drew1 | apply below_drew) | (refine Below.setCell ?_ (by simp; omega) _))⟩
  obtain ⟨b, hq, hbs, -⟩ := halyardlaw07_PacketCuts.get_put a1_0 a1_1 a1_2 ⟨#[]⟩ _e0 _e1 _e2 _e3 (by omega) (by decide)
  have HQ := Aside0.mk hq
  obtain ⟨k, hk⟩ : ∃ k : Nat, (k : Int) = a2 % (a.size : Int) := ⟨(a2 % (a.size : Int)).toNat, Int.toNat_of_nonneg (Int.emod_nonneg _ (by omega))⟩
  have hk2 : (k : Int) < a.size := by rw [hk]; exact Int.emod_lt_of_pos _ (by omega)
  have HG := Aside0.mk (halyardlaw07_PacketCuts.cut a0_0 a0_1 a0_2 a (by omega) hp k (by omega))
  have hwm : wrap64 (a2 % (a.size : Int)) = (k : Int) := by rw [← hk]; unfold wrap64; omega
  have hmod : a2 % (a.size : Int) = (k : Int) := hk.symm
  have htm : Int.tmod a2 (a.size : Int) = (k : Int) := by rw [Int.tmod_eq_emod_of_nonneg _g0]; exact hmod
  have hane : (a.toList == []) = false := by
    rw [beq_eq_false_iff_ne]
    intro h
    have := congrArg List.length h
    rw [ByteArray.toList_eq, Array.length_toList] at this
    exact absurd (show a.size = 0 from this) (by omega)
  have hane2 : a.toList.isEmpty = false := by simpa using hane
  have hapos : ¬ (a.size : Int) = 0 := by omega
  have hk0 : (0 : Int) ≤ (k : Int) := by omega
  have hk3 : (k : Int) ≤ a.size := by omega
  have hne : a0_0 ≠ a1_0 ∨ a0_1 ≠ a1_1 ∨ a0_2 ≠ a1_2 → (a.toList == b.toList) = false := by
    intro h
    rw [beq_eq_false_iff_ne]
    intro e
    have e := hw_toList_inj e
    subst e
    obtain ⟨h1, h2, h3⟩ := halyardlaw07_PacketCuts.inj a0_0 a0_1 a1_0 a1_1 a0_2 a1_2 a _f0 _f1 _f2 _f3 (by omega) _e0 _e1 _e2 _e3 (by omega) hp hq
    rcases h with h | h | h
    · exact h h1
    · exact h h2
    · exact h h3
  have hS := Aside0.mk has
  by_cases e0 : a0_0 = a1_0
  · by_cases e1 : a0_1 = a1_1
    · by_cases e2 : a0_2 = a1_2
      · subst e0 e1 e2
        rw [hp] at hq
        simp only [Option.some.injEq, Prod.mk.injEq, and_true] at hq
        subst hq
        clear hne hp has hbs hk
        have tok1 : True := trivial
        have tok2 : True := trivial
        have tok3 : True := trivial
        have tok4 : True := trivial
        go_enter Try.func4, Try.ntmps4
        go_wp2_with (first | (go_at_call 15; have t_ := tok1; clear t_; (with_reducible refine (packet_Put.calls _ _ _ _ _ _ HP.out).mono ?_); rintro e w1 ⟨rfl, hb1⟩; have n_ := Aside0.mk (show w1.heap[w.heap.size]? = some (.cells #[.int .u8 a0_0, .int .u8 a0_1, .string a0_2] 23 (0, 0)) from hw_below (by repeat (first | exact BKp.out | exact blk_new _ _ | (refine hw_at ?_ _; simp; done) | refine blk_drewN ?_ _ | refine blk_drew ?_ | refine blk_alloc ?_ _)) hb1); have BKp := n_; clear n_; have kp0 := blk_cell BKp.out 0; have kp1 := blk_cell BKp.out 1; have kp2 := blk_cell BKp.out 2; (try simp only [List.getElem?_toArray, List.getElem?_cons_zero, List.getElem?_cons_succ] at kp0 kp1 kp2); have zp := blk_lt BKp.out; have n_ := Aside0.mk (show w1.heap[(w.heap.size + 1)]? = some (.cells #[.int .u8 a0_0, .int .u8 a0_1, .string a0_2] 23 (0, 0)) from hw_below (by repeat (first | exact BKq.out | exact blk_new _ _ | (refine hw_at ?_ _; simp; done) | refine blk_drewN ?_ _ | refine blk_drew ?_ | refine blk_alloc ?_ _)) hb1); have BKq := n_; clear n_; have kq0 := blk_cell BKq.out 0; have kq1 := blk_cell BKq.out 1; have kq2 := blk_cell BKq.out 2; (try simp only [List.getElem?_toArray, List.getElem?_cons_zero, List.getElem?_cons_succ] at kq0 kq1 kq2); have zq := blk_lt BKq.out; replace HB := Aside0.mk (below_step (by repeat (first | (with_reducible first | exact HB.out | apply below_alloc | apply pw_below_drewN | apply below_drew1 | apply below_drew) | (refine Below.setCell ?_ (by simp; omega) _))) hb1); clear hb1; clear tok1) | (go_at_call 15; have t_ := tok2; clear t_; (with_reducible refine (packet_Put.calls _ _ _ _ _ _ HQ.out).mono ?_); rintro e w2 ⟨rfl, hb2⟩; have n_ := Aside0.mk (show w2.heap[w.heap.size]? = some (.cells #[.int .u8 a0_0, .int .u8 a0_1, .string a0_2] 23 (0, 0)) from hw_below (by repeat (first | exact BKp.out | exact blk_new _ _ | (refine hw_at ?_ _; simp; done) | refine blk_drewN ?_ _ | refine blk_drew ?_ | refine blk_alloc ?_ _)) hb2); clear BKp; have BKp := n_; clear n_; clear kp0; have kp0 := blk_cell BKp.out 0; clear kp1; have kp1 := blk_cell BKp.out 1; clear kp2; have kp2 := blk_cell BKp.out 2; (try simp only [List.getElem?_toArray, List.getElem?_cons_zero, List.getElem?_cons_succ] at kp0 kp1 kp2); clear zp; have zp := blk_lt BKp.out; have n_ := Aside0.mk (show w2.heap[(w.heap.size + 1)]? = some (.cells #[.int .u8 a0_0, .int .u8 a0_1, .string a0_2] 23 (0, 0)) from hw_below (by repeat (first | exact BKq.out | exact blk_new _ _ | (refine hw_at ?_ _; simp; done) | refine blk_drewN ?_ _ | refine blk_drew ?_ | refine blk_alloc ?_ _)) hb2); clear BKq; have BKq := n_; clear n_; clear kq0; have kq0 := blk_cell BKq.out 0; clear kq1; have kq1 := blk_cell BKq.out 1; clear kq2; have kq2 := blk_cell BKq.out 2; (try simp only [List.getElem?_toArray, List.getElem?_cons_zero, List.getElem?_cons_succ] at kq0 kq1 kq2); clear zq; have zq := blk_lt BKq.out; replace HB := Aside0.mk (below_step (by repeat (first | (with_reducible first | exact HB.out | apply below_alloc | apply pw_below_drewN | apply below_drew1 | apply below_drew) | (refine Below.setCell ?_ (by simp; omega) _))) hb2); clear hb2; clear tok2) | (go_at_call 16; have t_ := tok3; clear t_; (with_reducible refine (packet_Get.calls _ _ _ _ _ _ _ HG.out).mono ?_); rintro e w3 ⟨rfl, hb3⟩; have n_ := Aside0.mk (show w3.heap[w.heap.size]? = some (.cells #[.int .u8 a0_0, .int .u8 a0_1, .string a0_2] 23 (0, 0)) from hw_below (by repeat (first | exact BKp.out | exact blk_new _ _ | (refine hw_at ?_ _; simp; done) | refine blk_drewN ?_ _ | refine blk_drew ?_ | refine blk_alloc ?_ _)) hb3); clear BKp; have BKp := n_; clear n_; clear kp0; have kp0 := blk_cell BKp.out 0; clear kp1; have kp1 := blk_cell BKp.out 1; clear kp2; have kp2 := blk_cell BKp.out 2; (try simp only [List.getElem?_toArray, List.getElem?_cons_zero, List.getElem?_cons_succ] at kp0 kp1 kp2); clear zp; have zp := blk_lt BKp.out; have n_ := Aside0.mk (show w3.heap[(w.heap.size + 1)]? = some (.cells #[.int .u8 a0_0, .int .u8 a0_1, .string a0_2] 23 (0, 0)) from hw_below (by repeat (first | exact BKq.out | exact blk_new _ _ | (refine hw_at ?_ _; simp; done) | refine blk_drewN ?_ _ | refine blk_drew ?_ | refine blk_alloc ?_ _)) hb3); clear BKq; have BKq := n_; clear n_; clear kq0; have kq0 := blk_cell BKq.out 0; clear kq1; have kq1 := blk_cell BKq.out 1; clear kq2; have kq2 := blk_cell BKq.out 2; (try simp only [List.getElem?_toArray, List.getElem?_cons_zero, List.getElem?_cons_succ] at kq0 kq1 kq2); clear zq; have zq := blk_lt BKq.out; replace HB := Aside0.mk (below_step (by repeat (first | (with_reducible first | exact HB.out | apply below_alloc | apply pw_below_drewN | apply below_drew1 | apply below_drew) | (refine Below.setCell ?_ (by simp; omega) _))) hb3); clear hb3; clear tok3) | (go_at_call 14; have t_ := tok4; clear t_; (with_reducible refine (halyardlaw07_alive.calls _ _ rfl).mono ?_); rintro e w4 ⟨rfl, hb4⟩; replace HB := Aside0.mk (below_step (by repeat (first | (with_reducible first | exact HB.out | apply below_alloc | apply pw_below_drewN | apply below_drew1 | apply below_drew) | (refine Below.setCell ?_ (by simp; omega) _))) hb4); clear hb4; clear tok4))
        go_ret
        exact ⟨rfl, by repeat (first | (with_reducible first | exact HB.out | apply below_alloc | apply pw_below_drewN | apply below_drew1 | apply below_drew) | (refine Below.setCell ?_ (by simp; omega) _))⟩
      · subst e0 e1
        have hne1 := hne (.inr (.inr e2))
        have hne2 : (a0_2.toList == a1_2.toList) = false := by rw [beq_eq_false_iff_ne]; exact fun h => e2 (hw_toList_inj h)
        clear hne hp hq has hbs hk e2
        have tok1 : True := trivial
        have tok2 : True := trivial
        have tok3 : True := trivial
        have tok4 : True := trivial
        go_enter Try.func4, Try.ntmps4
        go_wp2_with (first | (go_at_call 15; have t_ := tok1; clear t_; (with_reducible refine (packet_Put.calls _ _ _ _ _ _ HP.out).mono ?_); rintro e w1 ⟨rfl, hb1⟩; have n_ := Aside0.mk (show w1.heap[w.heap.size]? = some (.cells #[.int .u8 a0_0, .int .u8 a0_1, .string a0_2] 23 (0, 0)) from hw_below (by repeat (first | exact BKp.out | exact blk_new _ _ | (refine hw_at ?_ _; simp; done) | refine blk_drewN ?_ _ | refine blk_drew ?_ | refine blk_alloc ?_ _)) hb1); have BKp := n_; clear n_; have kp0 := blk_cell BKp.out 0; have kp1 := blk_cell BKp.out 1; have kp2 := blk_cell BKp.out 2; (try simp only [List.getElem?_toArray, List.getElem?_cons_zero, List.getElem?_cons_succ] at kp0 kp1 kp2); have zp := blk_lt BKp.out; have n_ := Aside0.mk (show w1.heap[(w.heap.size + 1)]? = some (.cells #[.int .u8 a0_0, .int .u8 a0_1, .string a1_2] 23 (0, 0)) from hw_below (by repeat (first | exact BKq.out | exact blk_new _ _ | (refine hw_at ?_ _; simp; done) | refine blk_drewN ?_ _ | refine blk_drew ?_ | refine blk_alloc ?_ _)) hb1); have BKq := n_; clear n_; have kq0 := blk_cell BKq.out 0; have kq1 := blk_cell BKq.out 1; have kq2 := blk_cell BKq.out 2; (try simp only [List.getElem?_toArray, List.getElem?_cons_zero, List.getElem?_cons_succ] at kq0 kq1 kq2); have zq := blk_lt BKq.out; replace HB := Aside0.mk (below_step (by repeat (first | (with_reducible first | exact HB.out | apply below_alloc | apply pw_below_drewN | apply below_drew1 | apply below_drew) | (refine Below.setCell ?_ (by simp; omega) _))) hb1); clear hb1; clear tok1) | (go_at_call 15; have t_ := tok2; clear t_; (with_reducible refine (packet_Put.calls _ _ _ _ _ _ HQ.out).mono ?_); rintro e w2 ⟨rfl, hb2⟩; have n_ := Aside0.mk (show w2.heap[w.heap.size]? = some (.cells #[.int .u8 a0_0, .int .u8 a0_1, .string a0_2] 23 (0, 0)) from hw_below (by repeat (first | exact BKp.out | exact blk_new _ _ | (refine hw_at ?_ _; simp; done) | refine blk_drewN ?_ _ | refine blk_drew ?_ | refine blk_alloc ?_ _)) hb2); clear BKp; have BKp := n_; clear n_; clear kp0; have kp0 := blk_cell BKp.out 0; clear kp1; have kp1 := blk_cell BKp.out 1; clear kp2; have kp2 := blk_cell BKp.out 2; (try simp only [List.getElem?_toArray, List.getElem?_cons_zero, List.getElem?_cons_succ] at kp0 kp1 kp2); clear zp; have zp := blk_lt BKp.out; have n_ := Aside0.mk (show w2.heap[(w.heap.size + 1)]? = some (.cells #[.int .u8 a0_0, .int .u8 a0_1, .string a1_2] 23 (0, 0)) from hw_below (by repeat (first | exact BKq.out | exact blk_new _ _ | (refine hw_at ?_ _; simp; done) | refine blk_drewN ?_ _ | refine blk_drew ?_ | refine blk_alloc ?_ _)) hb2); clear BKq; have BKq := n_; clear n_; clear kq0; have kq0 := blk_cell BKq.out 0; clear kq1; have kq1 := blk_cell BKq.out 1; clear kq2; have kq2 := blk_cell BKq.out 2; (try simp only [List.getElem?_toArray, List.getElem?_cons_zero, List.getElem?_cons_succ] at kq0 kq1 kq2); clear zq; have zq := blk_lt BKq.out; replace HB := Aside0.mk (below_step (by repeat (first | (with_reducible first | exact HB.out | apply below_alloc | apply pw_below_drewN | apply below_drew1 | apply below_drew) | (refine Below.setCell ?_ (by simp; omega) _))) hb2); clear hb2; clear tok2) | (go_at_call 16; have t_ := tok3; clear t_; (with_reducible refine (packet_Get.calls _ _ _ _ _ _ _ HG.out).mono ?_); rintro e w3 ⟨rfl, hb3⟩; have n_ := Aside0.mk (show w3.heap[w.heap.size]? = some (.cells #[.int .u8 a0_0, .int .u8 a0_1, .string a0_2] 23 (0, 0)) from hw_below (by repeat (first | exact BKp.out | exact blk_new _ _ | (refine hw_at ?_ _; simp; done) | refine blk_drewN ?_ _ | refine blk_drew ?_ | refine blk_alloc ?_ _)) hb3); clear BKp; have BKp := n_; clear n_; clear kp0; have kp0 := blk_cell BKp.out 0; clear kp1; have kp1 := blk_cell BKp.out 1; clear kp2; have kp2 := blk_cell BKp.out 2; (try simp only [List.getElem?_toArray, List.getElem?_cons_zero, List.getElem?_cons_succ] at kp0 kp1 kp2); clear zp; have zp := blk_lt BKp.out; have n_ := Aside0.mk (show w3.heap[(w.heap.size + 1)]? = some (.cells #[.int .u8 a0_0, .int .u8 a0_1, .string a1_2] 23 (0, 0)) from hw_below (by repeat (first | exact BKq.out | exact blk_new _ _ | (refine hw_at ?_ _; simp; done) | refine blk_drewN ?_ _ | refine blk_drew ?_ | refine blk_alloc ?_ _)) hb3); clear BKq; have BKq := n_; clear n_; clear kq0; have kq0 := blk_cell BKq.out 0; clear kq1; have kq1 := blk_cell BKq.out 1; clear kq2; have kq2 := blk_cell BKq.out 2; (try simp only [List.getElem?_toArray, List.getElem?_cons_zero, List.getElem?_cons_succ] at kq0 kq1 kq2); clear zq; have zq := blk_lt BKq.out; replace HB := Aside0.mk (below_step (by repeat (first | (with_reducible first | exact HB.out | apply below_alloc | apply pw_below_drewN | apply below_drew1 | apply below_drew) | (refine Below.setCell ?_ (by simp; omega) _))) hb3); clear hb3; clear tok3) | (go_at_call 14; have t_ := tok4; clear t_; (with_reducible refine (halyardlaw07_alive.calls _ _ rfl).mono ?_); rintro e w4 ⟨rfl, hb4⟩; replace HB := Aside0.mk (below_step (by repeat (first | (with_reducible first | exact HB.out | apply below_alloc | apply pw_below_drewN | apply below_drew1 | apply below_drew) | (refine Below.setCell ?_ (by simp; omega) _))) hb4); clear hb4; clear tok4))
        go_ret
        exact ⟨rfl, by repeat (first | (with_reducible first | exact HB.out | apply below_alloc | apply pw_below_drewN | apply below_drew1 | apply below_drew) | (refine Below.setCell ?_ (by simp; omega) _))⟩
    · subst e0
      have hne1 := hne (.inr (.inl e1))
      have hne2 : (a0_1 == a1_1) = false := by rw [beq_eq_false_iff_ne]; exact e1
      clear hne hp hq has hbs hk e1
      have tok1 : True := trivial
      have tok2 : True := trivial
      have tok3 : True := trivial
      have tok4 : True := trivial
      go_enter Try.func4, Try.ntmps4
      go_wp2_with (first | (go_at_call 15; have t_ := tok1; clear t_; (with_reducible refine (packet_Put.calls _ _ _ _ _ _ HP.out).mono ?_); rintro e w1 ⟨rfl, hb1⟩; have n_ := Aside0.mk (show w1.heap[w.heap.size]? = some (.cells #[.int .u8 a0_0, .int .u8 a0_1, .string a0_2] 23 (0, 0)) from hw_below (by repeat (first | exact BKp.out | exact blk_new _ _ | (refine hw_at ?_ _; simp; done) | refine blk_drewN ?_ _ | refine blk_drew ?_ | refine blk_alloc ?_ _)) hb1); have BKp := n_; clear n_; have kp0 := blk_cell BKp.out 0; have kp1 := blk_cell BKp.out 1; have kp2 := blk_cell BKp.out 2; (try simp only [List.getElem?_toArray, List.getElem?_cons_zero, List.getElem?_cons_succ] at kp0 kp1 kp2); have zp := blk_lt BKp.out; have n_ := Aside0.mk (show w1.heap[(w.heap.size + 1)]? = some (.cells #[.int .u8 a0_0, .int .u8 a1_1, .string a1_2] 23 (0, 0)) from hw_below (by repeat (first | exact BKq.out | exact blk_new _ _ | (refine hw_at ?_ _; simp; done) | refine blk_drewN ?_ _ | refine blk_drew ?_ | refine blk_alloc ?_ _)) hb1); have BKq := n_; clear n_; have kq0 := blk_cell BKq.out 0; have kq1 := blk_cell BKq.out 1; have kq2 := blk_cell BKq.out 2; (try simp only [List.getElem?_toArray, List.getElem?_cons_zero, List.getElem?_cons_succ] at kq0 kq1 kq2); have zq := blk_lt BKq.out; replace HB := Aside0.mk (below_step (by repeat (first | (with_reducible first | exact HB.out | apply below_alloc | apply pw_below_drewN | apply below_drew1 | apply below_drew) | (refine Below.setCell ?_ (by simp; omega) _))) hb1); clear hb1; clear tok1) | (go_at_call 15; have t_ := tok2; clear t_; (with_reducible refine (packet_Put.calls _ _ _ _ _ _ HQ.out).mono ?_); rintro e w2 ⟨rfl, hb2⟩; have n_ := Aside0.mk (show w2.heap[w.heap.size]? = some (.cells #[.int .u8 a0_0, .int .u8 a0_1, .string a0_2] 23 (0, 0)) from hw_below (by repeat (first | exact BKp.out | exact blk_new _ _ | (refine hw_at ?_ _; simp; done) | refine blk_drewN ?_ _ | refine blk_drew ?_ | refine blk_alloc ?_ _)) hb2); clear BKp; have BKp := n_; clear n_; clear kp0; have kp0 := blk_cell BKp.out 0; clear kp1; have kp1 := blk_cell BKp.out 1; clear kp2; have kp2 := blk_cell BKp.out 2; (try simp only [List.getElem?_toArray, List.getElem?_cons_zero, List.getElem?_cons_succ] at kp0 kp1 kp2); clear zp; have zp := blk_lt BKp.out; have n_ := Aside0.mk (show w2.heap[(w.heap.size + 1)]? = some (.cells #[.int .u8 a0_0, .int .u8 a1_1, .string a1_2] 23 (0, 0)) from hw_below (by repeat (first | exact BKq.out | exact blk_new _ _ | (refine hw_at ?_ _; simp; done) | refine blk_drewN ?_ _ | refine blk_drew ?_ | refine blk_alloc ?_ _)) hb2); clear BKq; have BKq := n_; clear n_; clear kq0; have kq0 := blk_cell BKq.out 0; clear kq1; have kq1 := blk_cell BKq.out 1; clear kq2; have kq2 := blk_cell BKq.out 2; (try simp only [List.getElem?_toArray, List.getElem?_cons_zero, List.getElem?_cons_succ] at kq0 kq1 kq2); clear zq; have zq := blk_lt BKq.out; replace HB := Aside0.mk (below_step (by repeat (first | (with_reducible first | exact HB.out | apply below_alloc | apply pw_below_drewN | apply below_drew1 | apply below_drew) | (refine Below.setCell ?_ (by simp; omega) _))) hb2); clear hb2; clear tok2) | (go_at_call 16; have t_ := tok3; clear t_; (with_reducible refine (packet_Get.calls _ _ _ _ _ _ _ HG.out).mono ?_); rintro e w3 ⟨rfl, hb3⟩; have n_ := Aside0.mk (show w3.heap[w.heap.size]? = some (.cells #[.int .u8 a0_0, .int .u8 a0_1, .string a0_2] 23 (0, 0)) from hw_below (by repeat (first | exact BKp.out | exact blk_new _ _ | (refine hw_at ?_ _; simp; done) | refine blk_drewN ?_ _ | refine blk_drew ?_ | refine blk_alloc ?_ _)) hb3); clear BKp; have BKp := n_; clear n_; clear kp0; have kp0 := blk_cell BKp.out 0; clear kp1; have kp1 := blk_cell BKp.out 1; clear kp2; have kp2 := blk_cell BKp.out 2; (try simp only [List.getElem?_toArray, List.getElem?_cons_zero, List.getElem?_cons_succ] at kp0 kp1 kp2); clear zp; have zp := blk_lt BKp.out; have n_ := Aside0.mk (show w3.heap[(w.heap.size + 1)]? = some (.cells #[.int .u8 a0_0, .int .u8 a1_1, .string a1_2] 23 (0, 0)) from hw_below (by repeat (first | exact BKq.out | exact blk_new _ _ | (refine hw_at ?_ _; simp; done) | refine blk_drewN ?_ _ | refine blk_drew ?_ | refine blk_alloc ?_ _)) hb3); clear BKq; have BKq := n_; clear n_; clear kq0; have kq0 := blk_cell BKq.out 0; clear kq1; have kq1 := blk_cell BKq.out 1; clear kq2; have kq2 := blk_cell BKq.out 2; (try simp only [List.getElem?_toArray, List.getElem?_cons_zero, List.getElem?_cons_succ] at kq0 kq1 kq2); clear zq; have zq := blk_lt BKq.out; replace HB := Aside0.mk (below_step (by repeat (first | (with_reducible first | exact HB.out | apply below_alloc | apply pw_below_drewN | apply below_drew1 | apply below_drew) | (refine Below.setCell ?_ (by simp; omega) _))) hb3); clear hb3; clear tok3) | (go_at_call 14; have t_ := tok4; clear t_; (with_reducible refine (halyardlaw07_alive.calls _ _ rfl).mono ?_); rintro e w4 ⟨rfl, hb4⟩; replace HB := Aside0.mk (below_step (by repeat (first | (with_reducible first | exact HB.out | apply below_alloc | apply pw_below_drewN | apply below_drew1 | apply below_drew) | (refine Below.setCell ?_ (by simp; omega) _))) hb4); clear hb4; clear tok4))
      go_ret
      exact ⟨rfl, by repeat (first | (with_reducible first | exact HB.out | apply below_alloc | apply pw_below_drewN | apply below_drew1 | apply below_drew) | (refine Below.setCell ?_ (by simp; omega) _))⟩
  · have hne1 := hne (.inl e0)
    have hne2 : (a0_0 == a1_0) = false := by rw [beq_eq_false_iff_ne]; exact e0
    clear hne hp hq has hbs hk e0
    have tok1 : True := trivial
    have tok2 : True := trivial
    have tok3 : True := trivial
    have tok4 : True := trivial
    go_enter Try.func4, Try.ntmps4
    go_wp2_with (first | (go_at_call 15; have t_ := tok1; clear t_; (with_reducible refine (packet_Put.calls _ _ _ _ _ _ HP.out).mono ?_); rintro e w1 ⟨rfl, hb1⟩; have n_ := Aside0.mk (show w1.heap[w.heap.size]? = some (.cells #[.int .u8 a0_0, .int .u8 a0_1, .string a0_2] 23 (0, 0)) from hw_below (by repeat (first | exact BKp.out | exact blk_new _ _ | (refine hw_at ?_ _; simp; done) | refine blk_drewN ?_ _ | refine blk_drew ?_ | refine blk_alloc ?_ _)) hb1); have BKp := n_; clear n_; have kp0 := blk_cell BKp.out 0; have kp1 := blk_cell BKp.out 1; have kp2 := blk_cell BKp.out 2; (try simp only [List.getElem?_toArray, List.getElem?_cons_zero, List.getElem?_cons_succ] at kp0 kp1 kp2); have zp := blk_lt BKp.out; have n_ := Aside0.mk (show w1.heap[(w.heap.size + 1)]? = some (.cells #[.int .u8 a1_0, .int .u8 a1_1, .string a1_2] 23 (0, 0)) from hw_below (by repeat (first | exact BKq.out | exact blk_new _ _ | (refine hw_at ?_ _; simp; done) | refine blk_drewN ?_ _ | refine blk_drew ?_ | refine blk_alloc ?_ _)) hb1); have BKq := n_; clear n_; have kq0 := blk_cell BKq.out 0; have kq1 := blk_cell BKq.out 1; have kq2 := blk_cell BKq.out 2; (try simp only [List.getElem?_toArray, List.getElem?_cons_zero, List.getElem?_cons_succ] at kq0 kq1 kq2); have zq := blk_lt BKq.out; replace HB := Aside0.mk (below_step (by repeat (first | (with_reducible first | exact HB.out | apply below_alloc | apply pw_below_drewN | apply below_drew1 | apply below_drew) | (refine Below.setCell ?_ (by simp; omega) _))) hb1); clear hb1; clear tok1) | (go_at_call 15; have t_ := tok2; clear t_; (with_reducible refine (packet_Put.calls _ _ _ _ _ _ HQ.out).mono ?_); rintro e w2 ⟨rfl, hb2⟩; have n_ := Aside0.mk (show w2.heap[w.heap.size]? = some (.cells #[.int .u8 a0_0, .int .u8 a0_1, .string a0_2] 23 (0, 0)) from hw_below (by repeat (first | exact BKp.out | exact blk_new _ _ | (refine hw_at ?_ _; simp; done) | refine blk_drewN ?_ _ | refine blk_drew ?_ | refine blk_alloc ?_ _)) hb2); clear BKp; have BKp := n_; clear n_; clear kp0; have kp0 := blk_cell BKp.out 0; clear kp1; have kp1 := blk_cell BKp.out 1; clear kp2; have kp2 := blk_cell BKp.out 2; (try simp only [List.getElem?_toArray, List.getElem?_cons_zero, List.getElem?_cons_succ] at kp0 kp1 kp2); clear zp; have zp := blk_lt BKp.out; have n_ := Aside0.mk (show w2.heap[(w.heap.size + 1)]? = some (.cells #[.int .u8 a1_0, .int .u8 a1_1, .string a1_2] 23 (0, 0)) from hw_below (by repeat (first | exact BKq.out | exact blk_new _ _ | (refine hw_at ?_ _; simp; done) | refine blk_drewN ?_ _ | refine blk_drew ?_ | refine blk_alloc ?_ _)) hb2); clear BKq; have BKq := n_; clear n_; clear kq0; have kq0 := blk_cell BKq.out 0; clear kq1; have kq1 := blk_cell BKq.out 1; clear kq2; have kq2 := blk_cell BKq.out 2; (try simp only [List.getElem?_toArray, List.getElem?_cons_zero, List.getElem?_cons_succ] at kq0 kq1 kq2); clear zq; have zq := blk_lt BKq.out; replace HB := Aside0.mk (below_step (by repeat (first | (with_reducible first | exact HB.out | apply below_alloc | apply pw_below_drewN | apply below_drew1 | apply below_drew) | (refine Below.setCell ?_ (by simp; omega) _))) hb2); clear hb2; clear tok2) | (go_at_call 16; have t_ := tok3; clear t_; (with_reducible refine (packet_Get.calls _ _ _ _ _ _ _ HG.out).mono ?_); rintro e w3 ⟨rfl, hb3⟩; have n_ := Aside0.mk (show w3.heap[w.heap.size]? = some (.cells #[.int .u8 a0_0, .int .u8 a0_1, .string a0_2] 23 (0, 0)) from hw_below (by repeat (first | exact BKp.out | exact blk_new _ _ | (refine hw_at ?_ _; simp; done) | refine blk_drewN ?_ _ | refine blk_drew ?_ | refine blk_alloc ?_ _)) hb3); clear BKp; have BKp := n_; clear n_; clear kp0; have kp0 := blk_cell BKp.out 0; clear kp1; have kp1 := blk_cell BKp.out 1; clear kp2; have kp2 := blk_cell BKp.out 2; (try simp only [List.getElem?_toArray, List.getElem?_cons_zero, List.getElem?_cons_succ] at kp0 kp1 kp2); clear zp; have zp := blk_lt BKp.out; have n_ := Aside0.mk (show w3.heap[(w.heap.size + 1)]? = some (.cells #[.int .u8 a1_0, .int .u8 a1_1, .string a1_2] 23 (0, 0)) from hw_below (by repeat (first | exact BKq.out | exact blk_new _ _ | (refine hw_at ?_ _; simp; done) | refine blk_drewN ?_ _ | refine blk_drew ?_ | refine blk_alloc ?_ _)) hb3); clear BKq; have BKq := n_; clear n_; clear kq0; have kq0 := blk_cell BKq.out 0; clear kq1; have kq1 := blk_cell BKq.out 1; clear kq2; have kq2 := blk_cell BKq.out 2; (try simp only [List.getElem?_toArray, List.getElem?_cons_zero, List.getElem?_cons_succ] at kq0 kq1 kq2); clear zq; have zq := blk_lt BKq.out; replace HB := Aside0.mk (below_step (by repeat (first | (with_reducible first | exact HB.out | apply below_alloc | apply pw_below_drewN | apply below_drew1 | apply below_drew) | (refine Below.setCell ?_ (by simp; omega) _))) hb3); clear hb3; clear tok3) | (go_at_call 14; have t_ := tok4; clear t_; (with_reducible refine (halyardlaw07_alive.calls _ _ rfl).mono ?_); rintro e w4 ⟨rfl, hb4⟩; replace HB := Aside0.mk (below_step (by repeat (first | (with_reducible first | exact HB.out | apply below_alloc | apply pw_below_drewN | apply below_drew1 | apply below_drew) | (refine Below.setCell ?_ (by simp; omega) _))) hb4); clear hb4; clear tok4))
    go_ret
    exact ⟨rfl, by repeat (first | (with_reducible first | exact HB.out | apply below_alloc | apply pw_below_drewN | apply below_drew1 | apply below_drew) | (refine Below.setCell ?_ (by simp; omega) _))⟩

end Go.Proofs.Ytdojpjiiihmdoaa.PG07
