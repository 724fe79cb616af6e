/- The walk of the law halyard/halyardlaw07.PacketBack: the call returns true, whatever the input; no condition. -/
import Derived.Test.YtdojpjiiihmdoaaPG07x0
import Derived.Test.YtdojpjiiihmdoaaPG07x1
import Derived.Test.YtdojpjiiihmdoaaPG07x2
import Derived.Test.YtdojpjiiihmdoaaPG07x3
import Derived.Test.YtdojpjiiihmdoaaPG07x4
import Derived.Test.YtdojpjiiihmdoaaPG07x5
import Derived.Test.YtdojpjiiihmdoaaPG07x6
import Derived.Test.YtdojpjiiihmdoaaHW
namespace Go.Proofs.Ytdojpjiiihmdoaa.PG07
open Go.RowKit Go.Proofs.YtdojpjiiihmdoaaW.PrintWords Go.Proofs.YtdojpjiiihmdoaaW.PrintLast Go.Proofs.YtdojpjiiihmdoaaW.PrintMore Go.Proofs.YtdojpjiiihmdoaaHW
attribute [local go_sem] max2_int min2_int max_two min_two max_three min_three max_four min_four
set_option linter.unusedVariables false
set_option linter.unusedSimpArgs false
theorem halyardlaw07_PacketBack.get_put (c i : Int) (d more : ByteArray) (c0 : 0 ≤ c) (c1 : c ≤ 255) (i0 : 0 ≤ i) (i1 : i ≤ 255) (hd : d.size ≤ 1496) (hm : more.size ≤ 16384) :
    ∃ a, packet_Put.f c i d = some (a, 0) ∧ a.size = d.size + 4 ∧ packet_Get.f (a ++ more) = some (c, i, d, (more.size : Int), 0) := by
  obtain ⟨n, hn⟩ : ∃ n : Int, n = (d.size : Int) + 4 := ⟨_, rfl⟩
  obtain ⟨hd4, hhd⟩ : ∃ hd4, hd4 = strOfNums [c, i, n / 256, n % 256] := ⟨_, rfl⟩
  have h4 : hd4.size = 4 := by rw [hhd, hw_strs]; rfl
  refine ⟨hd4 ++ d, ?_, by rw [ByteArray.size_append, h4]; omega, ?_⟩
  · unfold packet_Put.f
    rw [if_neg (by omega), ← hn, hhd]
  · have e : ∀ k : Int, 0 ≤ k → k < 4 → bt (hd4 ++ d ++ more) k = bt hd4 k := fun k h0 h1 => by
      rw [hw_bt_l _ _ _ (by rw [ByteArray.size_append]; omega), hw_bt_l _ _ _ (by omega)]
    have v0 : bt hd4 0 = c := by rw [hhd, hw_bt_n _ 0 (by simp) (by simpa using c0) (by simpa using c1)]; rfl
    have v1 : bt hd4 1 = i := by rw [hhd, hw_bt_n _ 1 (by simp) (by simpa using i0) (by simpa using i1)]; rfl
    have v2 : bt hd4 2 = n / 256 := by rw [hhd, hw_bt_n _ 2 (by simp) (by show 0 ≤ n / 256; omega) (by show n / 256 ≤ 255; omega)]; rfl
    have v3 : bt hd4 3 = n % 256 := by rw [hhd, hw_bt_n _ 3 (by simp) (by show 0 ≤ n % 256; omega) (by show n % 256 ≤ 255; omega)]; rfl
    have hs : ((hd4 ++ d ++ more).size : Int) = n + more.size := by rw [ByteArray.size_append, ByteArray.size_append, h4]; omega
    have hx : (hd4 ++ d ++ more).extract 4 n.toNat = d := by
      have hs' : (hd4 ++ d ++ more).size = 4 + d.size + more.size := by rw [ByteArray.size_append, ByteArray.size_append, h4]
      have hz : ((hd4 ++ d ++ more).extract 4 n.toNat).size = d.size := by rw [ByteArray.size_extract, hs']; omega
      refine hw_ext _ _ hz (fun k hk => ?_)
      rw [hz] at hk
      rw [hw_bt_x _ _ _ _ (by rw [hz]; simpa using hk), hw_bt_l _ _ _ (by rw [ByteArray.size_append, h4]; simp only [Int.toNat_natCast]; omega), hw_bt_r _ _ _ (by rw [h4]; simp only [Int.toNat_natCast]; omega), h4]
      congr 1
      simp only [Int.toNat_natCast]
      omega
    unfold packet_Get.f
    rw [e 0 (by omega) (by omega), e 1 (by omega) (by omega), e 2 (by omega) (by omega), e 3 (by omega) (by omega), v0, v1, v2, v3, hs, show 256 * (n / 256) + n % 256 = n from by omega]
    rw [if_neg (by omega), if_neg (by omega), if_neg (by omega), if_neg (by omega), hx, show wrap64 (n + (more.size : Int) - n) = more.size from by unfold wrap64; omega]
theorem halyardlaw07_PacketBack.put_get (s : ByteArray) (hs : s.size ≤ 16384) (x1 x2 : Int) (x3 : ByteArray) (n f : Int) (h : packet_Get.f s = some (x1, x2, x3, n, f)) :
    (f ≠ 0 ∧ x1 = 0 ∧ x2 = 0 ∧ x3 = ⟨#[]⟩ ∧ n = 0) ∨ (f = 0 ∧ 0 ≤ n ∧ n ≤ s.size ∧ packet_Put.f x1 x2 x3 = some (s.extract 0 ((s.size : Int) - n).toNat, 0)) := by
  have b0 := bt_range s 0
  have b1 := bt_range s 1
  have b2 := bt_range s 2
  have b3 := bt_range s 3
  unfold packet_Get.f at h
  obtain ⟨m, hm⟩ : ∃ m, 256 * bt s 2 + bt s 3 = m := ⟨_, rfl⟩
  rw [hm] at h
  by_cases c1 : (s.size : Int) < 4
  · rw [if_pos c1] at h; simp only [Option.some.injEq, Prod.mk.injEq] at h; obtain ⟨rfl, rfl, rfl, rfl, rfl⟩ := h; exact .inl ⟨by decide, rfl, rfl, rfl, rfl⟩
  rw [if_neg c1] at h
  by_cases c2 : m < 4
  · rw [if_pos c2] at h; simp only [Option.some.injEq, Prod.mk.injEq] at h; obtain ⟨rfl, rfl, rfl, rfl, rfl⟩ := h; exact .inl ⟨by decide, rfl, rfl, rfl, rfl⟩
  rw [if_neg c2] at h
  by_cases c3 : m > (s.size : Int)
  · rw [if_pos c3] at h; simp only [Option.some.injEq, Prod.mk.injEq] at h; obtain ⟨rfl, rfl, rfl, rfl, rfl⟩ := h; exact .inl ⟨by decide, rfl, rfl, rfl, rfl⟩
  rw [if_neg c3] at h
  by_cases c4 : m > 1500
  · rw [if_pos c4] at h; simp only [Option.some.injEq, Prod.mk.injEq] at h; obtain ⟨rfl, rfl, rfl, rfl, rfl⟩ := h; exact .inl ⟨by decide, rfl, rfl, rfl, rfl⟩
  rw [if_neg c4] at h
  simp only [Option.some.injEq, Prod.mk.injEq] at h
  obtain ⟨rfl, rfl, rfl, hn, rfl⟩ := h
  have hn' : n = (s.size : Int) - m := by rw [← hn]; unfold wrap64; omega
  refine .inr ⟨rfl, by omega, by omega, ?_⟩
  have hx : (s.extract 4 m.toNat).size = m.toNat - 4 := by rw [ByteArray.size_extract]; omega
  unfold packet_Put.f
  rw [if_neg (by omega), hx, show ((m.toNat - 4 : Nat) : Int) + 4 = m from by omega, show ((s.size : Int) - n).toNat = m.toNat from by omega]
  congr 2
  refine hw_ext _ _ (by rw [ByteArray.size_append, hw_strs, hx, ByteArray.size_extract]; simp only [List.length_cons, List.length_nil]; omega) (fun k hk => ?_)
  rw [ByteArray.size_append, hw_strs, hx] at hk
  simp only [List.length_cons, List.length_nil] at hk
  have er : bt (s.extract 0 m.toNat) k = bt s k := by
    rw [hw_bt_x _ _ _ _ (by rw [ByteArray.size_extract]; omega)]; simp
  rw [er]
  by_cases hk4 : k < 4
  · rw [hw_bt_l _ _ _ (by rw [hw_strs]; simpa using hk4)]
    have : k = 0 ∨ k = 1 ∨ k = 2 ∨ k = 3 := by omega
    rcases this with rfl | rfl | rfl | rfl
    · rw [hw_bt_n _ _ (by simp) (by simpa using b0.1) (by simpa using b0.2)]; rfl
    · rw [hw_bt_n _ _ (by simp) (by simpa using b1.1) (by simpa using b1.2)]; rfl
    · rw [hw_bt_n _ _ (by simp) (by show 0 ≤ m / 256; omega) (by show m / 256 ≤ 255; omega)]; show m / 256 = bt s 2; omega
    · rw [hw_bt_n _ _ (by simp) (by show 0 ≤ m % 256; omega) (by show m % 256 ≤ 255; omega)]; show m % 256 = bt s 3; omega
  · rw [hw_bt_r _ _ _ (by rw [hw_strs]; simp; omega), hw_strs, hw_bt_x _ _ _ _ (by rw [hx]; simp; omega)]
    congr 1
    simp
    omega
set_option maxRecDepth 100000 in
set_option maxHeartbeats 1000000 in
theorem halyardlaw07_PacketBack.run (a0_0 a0_1 : Int) (a0_2 a1 a2 : ByteArray) (w : World) (_f0 : 0 ≤ a0_0) (_f1 : a0_0 ≤ 255) (_f2 : 0 ≤ a0_1) (_f3 : a0_1 ≤ 255) (_z0 : a0_2.size ≤ 140737488351232) (_z1 : a1.size ≤ 140737488351232) (_z2 : a2.size ≤ 140737488351232) :
    Calls Try.prog 3 #[.agg #[.int .u8 a0_0, .int .u8 a0_1, .string a0_2], .string a1, .string a2] w fun e w' => e = .returned (.bool true) ∧ Below w.heap.size w w' := by
  have huP := Try.underlying23
  have HB := Aside0.mk (Below.refl w.heap.size w)
  have hw0 : wrap64 ((a0_2.size : Int) + (a1.size : Int)) = (a0_2.size : Int) + (a1.size : Int) := by unfold wrap64; omega
  have hw : wrap64 ((a0_2.size : Int) + (a1.size : Int) + (a2.size : Int)) = (a0_2.size : Int) + (a1.size : Int) + (a2.size : Int) := by unfold wrap64; omega
  by_cases c1 : 16384 < (a0_2.size : Int) + (a1.size : Int) + (a2.size : Int)
  · clear _z0 _z1 _z2
    go_enter Try.func3, Try.ntmps3
    go_wp2_with (go_at_call 14; (with_reducible refine (halyardlaw07_alive.calls _ _ rfl).mono ?_); rintro e w1 ⟨rfl, hb1⟩; replace HB := Aside0.mk (below_step (by repeat (first | (with_reducible first | exact HB.out | apply below_alloc | apply pw_below_drewN | apply below_drew1 | apply below_drew) | (refine Below.setCell ?_ (by simp; omega) _))) hb1))
    go_ret
    exact ⟨rfl, by repeat (first | (with_reducible first | exact HB.out | apply below_alloc | apply pw_below_drewN | apply below_drew1 | apply below_drew) | (refine Below.setCell ?_ (by simp; omega) _))⟩
  have c1' : (a0_2.size : Int) + (a1.size : Int) + (a2.size : Int) ≤ 16384 := by omega
  clear c1
  obtain ⟨x1, x2, x3, n, f, hg⟩ : ∃ x1 x2 x3 n f, packet_Get.f a2 = some (x1, x2, x3, n, f) := by
    unfold packet_Get.f
    repeat' split
    all_goals exact ⟨_, _, _, _, _, rfl⟩
  have hpg := halyardlaw07_PacketBack.put_get a2 (by omega) x1 x2 x3 n f hg
  have HG := Aside0.mk hg
  clear hg
  by_cases c2 : (a0_2.size : Int) ≤ 1496
  · obtain ⟨a, hp, has, hgp⟩ := halyardlaw07_PacketBack.get_put a0_0 a0_1 a0_2 a1 _f0 _f1 _f2 _f3 (by omega) (by omega)
    have HP := Aside0.mk hp
    have HGP := Aside0.mk hgp
    have has' : (a.size : Int) = (a0_2.size : Int) + 4 := by omega
    have hcat : ¬ 9223372036854775807 < a.size + a1.size := by omega
    have hq : ((a.size : Int) != (a0_2.size : Int) + 4) = false := by rw [has']; simp
    have HAS := Aside0.mk has'
    clear hp hgp has has'
    rcases hpg with ⟨hf, rfl, rfl, rfl, rfl⟩ | ⟨rfl, n0, n1, hpp⟩
    · have hfb : (f != 0) = true := by simpa using hf
      go_enter Try.func3, Try.ntmps3
      go_wp2_with (first | (go_at_call 15; (with_reducible refine (packet_Put.calls _ _ _ _ _ _ HP.out).mono ?_); rintro e w1 ⟨rfl, hb1⟩; have n_ := Aside0.mk (show w1.heap[w.heap.size]? = some (.cells #[.int .u8 a0_0, .int .u8 a0_1, .string a0_2] 23 (0, 0)) from hw_below (by repeat (first | exact BKp.out | exact blk_new _ _ | exact hw_at (by simp) _ | refine blk_drewN ?_ _ | refine blk_drew ?_ | refine blk_alloc ?_ _)) hb1); have BKp := n_; clear n_; have kp0 := blk_cell BKp.out 0; have kp1 := blk_cell BKp.out 1; have kp2 := blk_cell BKp.out 2; (try simp only [List.getElem?_toArray, List.getElem?_cons_zero, List.getElem?_cons_succ] at kp0 kp1 kp2); have zp := blk_lt BKp.out; replace HB := Aside0.mk (below_step (by repeat (first | (with_reducible first | exact HB.out | apply below_alloc | apply pw_below_drewN | apply below_drew1 | apply below_drew) | (refine Below.setCell ?_ (by simp; omega) _))) hb1); clear hb1) | (go_at_call 16; (with_reducible refine (packet_Get.calls _ _ _ _ _ _ _ HGP.out).mono ?_); rintro e w2 ⟨rfl, hb2⟩; have n_ := Aside0.mk (show w2.heap[w.heap.size]? = some (.cells #[.int .u8 a0_0, .int .u8 a0_1, .string a0_2] 23 (0, 0)) from hw_below (by repeat (first | exact BKp.out | exact blk_new _ _ | exact hw_at (by simp) _ | refine blk_drewN ?_ _ | refine blk_drew ?_ | refine blk_alloc ?_ _)) hb2); clear BKp; have BKp := n_; clear n_; clear kp0; have kp0 := blk_cell BKp.out 0; clear kp1; have kp1 := blk_cell BKp.out 1; clear kp2; have kp2 := blk_cell BKp.out 2; (try simp only [List.getElem?_toArray, List.getElem?_cons_zero, List.getElem?_cons_succ] at kp0 kp1 kp2); clear zp; have zp := blk_lt BKp.out; replace HB := Aside0.mk (below_step (by repeat (first | (with_reducible first | exact HB.out | apply below_alloc | apply pw_below_drewN | apply below_drew1 | apply below_drew) | (refine Below.setCell ?_ (by simp; omega) _))) hb2); clear hb2) | (go_at_call 16; (with_reducible refine (packet_Get.calls _ _ _ _ _ _ _ HG.out).mono ?_); rintro e w3 ⟨rfl, hb3⟩; replace HB := Aside0.mk (below_step (by repeat (first | (with_reducible first | exact HB.out | apply below_alloc | apply pw_below_drewN | apply below_drew1 | apply below_drew) | (refine Below.setCell ?_ (by simp; omega) _))) hb3); clear hb3) | (go_at_call 14; (with_reducible refine (halyardlaw07_alive.calls _ _ rfl).mono ?_); rintro e w4 ⟨rfl, hb4⟩; have n_ := Aside0.mk (show w4.heap[w3.heap.size]? = some (.cells #[.int .u8 0, .int .u8 0, .string ⟨#[]⟩] 23 (0, 0)) from hw_below (by repeat (first | exact BKy.out | exact blk_new _ _ | exact hw_at (by simp) _ | refine blk_drewN ?_ _ | refine blk_drew ?_ | refine blk_alloc ?_ _)) hb4); have BKy := n_; clear n_; have ky0 := blk_cell BKy.out 0; have ky1 := blk_cell BKy.out 1; have ky2 := blk_cell BKy.out 2; (try simp only [List.getElem?_toArray, List.getElem?_cons_zero, List.getElem?_cons_succ] at ky0 ky1 ky2); have zy := blk_lt BKy.out; replace HB := Aside0.mk (below_step (by repeat (first | (with_reducible first | exact HB.out | apply below_alloc | apply pw_below_drewN | apply below_drew1 | apply below_drew) | (refine Below.setCell ?_ (by simp; omega) _))) hb4); clear hb4))
      go_ret
      exact ⟨rfl, by repeat (first | (with_reducible first | exact HB.out | apply below_alloc | apply pw_below_drewN | apply below_drew1 | apply below_drew) | (refine Below.setCell ?_ (by simp; omega) _))⟩
    · have HPP := Aside0.mk hpp
      clear hpp
      have hsz : ¬ (a2.size : Int) < n := by omega
      have hwn : wrap64 ((a2.size : Int) - n) = (a2.size : Int) - n := by unfold wrap64; omega
      have hl0 : 0 ≤ (a2.size : Int) - n := by omega
      have hl1 : (a2.size : Int) - n ≤ a2.size := by omega
      go_enter Try.func3, Try.ntmps3
      go_wp2_with (first | (go_at_call 15; (with_reducible refine (packet_Put.calls _ _ _ _ _ _ HP.out).mono ?_); rintro e w1 ⟨rfl, hb1⟩; have n_ := Aside0.mk (show w1.heap[w.heap.size]? = some (.cells #[.int .u8 a0_0, .int .u8 a0_1, .string a0_2] 23 (0, 0)) from hw_below (by repeat (first | exact BKp.out | exact blk_new _ _ | exact hw_at (by simp) _ | refine blk_drewN ?_ _ | refine blk_drew ?_ | refine blk_alloc ?_ _)) hb1); have BKp := n_; clear n_; have kp0 := blk_cell BKp.out 0; have kp1 := blk_cell BKp.out 1; have kp2 := blk_cell BKp.out 2; (try simp only [List.getElem?_toArray, List.getElem?_cons_zero, List.getElem?_cons_succ] at kp0 kp1 kp2); have zp := blk_lt BKp.out; replace HB := Aside0.mk (below_step (by repeat (first | (with_reducible first | exact HB.out | apply below_alloc | apply pw_below_drewN | apply below_drew1 | apply below_drew) | (refine Below.setCell ?_ (by simp; omega) _))) hb1); clear hb1) | (go_at_call 16; (with_reducible refine (packet_Get.calls _ _ _ _ _ _ _ HGP.out).mono ?_); rintro e w2 ⟨rfl, hb2⟩; have n_ := Aside0.mk (show w2.heap[w.heap.size]? = some (.cells #[.int .u8 a0_0, .int .u8 a0_1, .string a0_2] 23 (0, 0)) from hw_below (by repeat (first | exact BKp.out | exact blk_new _ _ | exact hw_at (by simp) _ | refine blk_drewN ?_ _ | refine blk_drew ?_ | refine blk_alloc ?_ _)) hb2); clear BKp; have BKp := n_; clear n_; clear kp0; have kp0 := blk_cell BKp.out 0; clear kp1; have kp1 := blk_cell BKp.out 1; clear kp2; have kp2 := blk_cell BKp.out 2; (try simp only [List.getElem?_toArray, List.getElem?_cons_zero, List.getElem?_cons_succ] at kp0 kp1 kp2); clear zp; have zp := blk_lt BKp.out; replace HB := Aside0.mk (below_step (by repeat (first | (with_reducible first | exact HB.out | apply below_alloc | apply pw_below_drewN | apply below_drew1 | apply below_drew) | (refine Below.setCell ?_ (by simp; omega) _))) hb2); clear hb2) | (go_at_call 16; (with_reducible refine (packet_Get.calls _ _ _ _ _ _ _ HG.out).mono ?_); rintro e w3 ⟨rfl, hb3⟩; replace HB := Aside0.mk (below_step (by repeat (first | (with_reducible first | exact HB.out | apply below_alloc | apply pw_below_drewN | apply below_drew1 | apply below_drew) | (refine Below.setCell ?_ (by simp; omega) _))) hb3); clear hb3) | (go_at_call 15; (with_reducible refine (packet_Put.calls _ _ _ _ _ _ HPP.out).mono ?_); rintro e w4 ⟨rfl, hb4⟩; replace HB := Aside0.mk (below_step (by repeat (first | (with_reducible first | exact HB.out | apply below_alloc | apply pw_below_drewN | apply below_drew1 | apply below_drew) | (refine Below.setCell ?_ (by simp; omega) _))) hb4); clear hb4) | (go_at_call 14; (with_reducible refine (halyardlaw07_alive.calls _ _ rfl).mono ?_); rintro e w5 ⟨rfl, hb5⟩; replace HB := Aside0.mk (below_step (by repeat (first | (with_reducible first | exact HB.out | apply below_alloc | apply pw_below_drewN | apply below_drew1 | apply below_drew) | (refine Below.setCell ?_ (by simp; omega) _))) hb5); clear hb5))
      go_ret
      exact ⟨rfl, by repeat (first | (with_reducible first | exact HB.out | apply below_alloc | apply pw_below_drewN | apply below_drew1 | apply below_drew) | (refine Below.setCell ?_ (by simp; omega) _))⟩
  · have hp : packet_Put.f a0_0 a0_1 a0_2 = some (⟨#[]⟩, 5) := by unfold packet_Put.f; rw [if_pos (by omega)]
    have HP := Aside0.mk hp
    clear hp
    have c2b : decide ((a0_2.size : Int) ≤ 1496) = false := decide_eq_false c2
    rcases hpg with ⟨hf, rfl, rfl, rfl, rfl⟩ | ⟨rfl, n0, n1, hpp⟩
    · have hfb : (f != 0) = true := by simpa using hf
      go_enter Try.func3, Try.ntmps3
      go_wp2_with (first | (go_at_call 15; (with_reducible refine (packet_Put.calls _ _ _ _ _ _ HP.out).mono ?_); rintro e w1 ⟨rfl, hb1⟩; have n_ := Aside0.mk (show w1.heap[w.heap.size]? = some (.cells #[.int .u8 a0_0, .int .u8 a0_1, .string a0_2] 23 (0, 0)) from hw_below (by repeat (first | exact BKp.out | exact blk_new _ _ | exact hw_at (by simp) _ | refine blk_drewN ?_ _ | refine blk_drew ?_ | refine blk_alloc ?_ _)) hb1); have BKp := n_; clear n_; have kp0 := blk_cell BKp.out 0; have kp1 := blk_cell BKp.out 1; have kp2 := blk_cell BKp.out 2; (try simp only [List.getElem?_toArray, List.getElem?_cons_zero, List.getElem?_cons_succ] at kp0 kp1 kp2); have zp := blk_lt BKp.out; replace HB := Aside0.mk (below_step (by repeat (first | (with_reducible first | exact HB.out | apply below_alloc | apply pw_below_drewN | apply below_drew1 | apply below_drew) | (refine Below.setCell ?_ (by simp; omega) _))) hb1); clear hb1) | (go_at_call 16; (with_reducible refine (packet_Get.calls _ _ _ _ _ _ _ HG.out).mono ?_); rintro e w2 ⟨rfl, hb2⟩; replace HB := Aside0.mk (below_step (by repeat (first | (with_reducible first | exact HB.out | apply below_alloc | apply pw_below_drewN | apply below_drew1 | apply below_drew) | (refine Below.setCell ?_ (by simp; omega) _))) hb2); clear hb2) | (go_at_call 14; (with_reducible refine (halyardlaw07_alive.calls _ _ rfl).mono ?_); rintro e w3 ⟨rfl, hb3⟩; have n_ := Aside0.mk (show w3.heap[w2.heap.size]? = some (.cells #[.int .u8 0, .int .u8 0, .string ⟨#[]⟩] 23 (0, 0)) from hw_below (by repeat (first | exact BKy.out | exact blk_new _ _ | exact hw_at (by simp) _ | refine blk_drewN ?_ _ | refine blk_drew ?_ | refine blk_alloc ?_ _)) hb3); have BKy := n_; clear n_; have ky0 := blk_cell BKy.out 0; have ky1 := blk_cell BKy.out 1; have ky2 := blk_cell BKy.out 2; (try simp only [List.getElem?_toArray, List.getElem?_cons_zero, List.getElem?_cons_succ] at ky0 ky1 ky2); have zy := blk_lt BKy.out; replace HB := Aside0.mk (below_step (by repeat (first | (with_reducible first | exact HB.out | apply below_alloc | apply pw_below_drewN | apply below_drew1 | apply below_drew) | (refine Below.setCell ?_ (by simp; omega) _))) hb3); clear hb3))
      go_ret
      exact ⟨rfl, by repeat (first | (with_reducible first | exact HB.out | apply below_alloc | apply pw_below_drewN | apply below_drew1 | apply below_drew) | (refine Below.setCell ?_ (by simp; omega) _))⟩
    · have HPP := Aside0.mk hpp
      clear hpp
      have hsz : ¬ (a2.size : Int) < n := by omega
      have hwn : wrap64 ((a2.size : Int) - n) = (a2.size : Int) - n := by unfold wrap64; omega
      have hl0 : 0 ≤ (a2.size : Int) - n := by omega
      have hl1 : (a2.size : Int) - n ≤ a2.size := by omega
      go_enter Try.func3, Try.ntmps3
      go_wp2_with (first | (go_at_call 15; (with_reducible refine (packet_Put.calls _ _ _ _ _ _ HP.out).mono ?_); rintro e w1 ⟨rfl, hb1⟩; have n_ := Aside0.mk (show w1.heap[w.heap.size]? = some (.cells #[.int .u8 a0_0, .int .u8 a0_1, .string a0_2] 23 (0, 0)) from hw_below (by repeat (first | exact BKp.out | exact blk_new _ _ | exact hw_at (by simp) _ | refine blk_drewN ?_ _ | refine blk_drew ?_ | refine blk_alloc ?_ _)) hb1); have BKp := n_; clear n_; have kp0 := blk_cell BKp.out 0; have kp1 := blk_cell BKp.out 1; have kp2 := blk_cell BKp.out 2; (try simp only [List.getElem?_toArray, List.getElem?_cons_zero, List.getElem?_cons_succ] at kp0 kp1 kp2); have zp := blk_lt BKp.out; replace HB := Aside0.mk (below_step (by repeat (first | (with_reducible first | exact HB.out | apply below_alloc | apply pw_below_drewN | apply below_drew1 | apply below_drew) | (refine Below.setCell ?_ (by simp; omega) _))) hb1); clear hb1) | (go_at_call 16; (with_reducible refine (packet_Get.calls _ _ _ _ _ _ _ HG.out).mono ?_); rintro e w2 ⟨rfl, hb2⟩; replace HB := Aside0.mk (below_step (by repeat (first | (with_reducible first | exact HB.out | apply below_alloc | apply pw_below_drewN | apply below_drew1 | apply below_drew) | (refine Below.setCell ?_ (by simp; omega) _))) hb2); clear hb2) | (go_at_call 15; (with_reducible refine (packet_Put.calls _ _ _ _ _ _ HPP.out).mono ?_); rintro e w3 ⟨rfl, hb3⟩; replace HB := Aside0.mk (below_step (by repeat (first | (with_reducible first | exact HB.out | apply below_alloc | apply pw_below_drewN | apply below_drew1 | apply below_drew) | (refine Below.setCell ?_ (by simp; omega) _))) hb3); clear hb3) | (go_at_call 14; (with_reducible refine (halyardlaw07_alive.calls _ _ rfl).mono ?_); rintro e w4 ⟨rfl, hb4⟩; replace HB := Aside0.mk (below_step (by repeat (first | (with_reducible first | exact HB.out | apply below_alloc | apply pw_below_drewN | apply below_drew1 | apply below_drew) | (refine Below.setCell ?_ (by simp; omega) _))) hb4); clear hb4))
      go_ret
      exact ⟨rfl, by repeat (first | (with_reducible first | exact HB.out | apply below_alloc | apply pw_below_drewN | apply below_drew1 | apply below_drew) | (refine Below.setCell ?_ (by simp; omega) _))⟩

end Go.Proofs.Ytdojpjiiihmdoaa.PG07
